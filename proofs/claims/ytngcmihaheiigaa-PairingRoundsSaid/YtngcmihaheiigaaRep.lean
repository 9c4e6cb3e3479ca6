/-
  Report, Close.
-/
import Derived.Test.YtngcmihaheiigaaStO
set_option linter.unusedSimpArgs false
set_option linter.unusedVariables false
namespace Go.Proofs.Ytngcmihaheiigaa
open Go.RowKit

theorem start_any (B p : Nat) (st : TS) (x : TC) (w : World) (h : Tn w B p st x) : Calls Try.prog 10 #[.pointer (some ⟨p, 0, none⟩)] w (StartEnd B p st x w) := by
  by_cases he : st.sErr = 0
  · have hop : st.open_ = false := by
      cases ho : st.open_ with
      | false => rfl
      | true => unfold TS.sErr at he; rw [ho] at he; simp at he
    have hc : st.rounds.length < 13 := by
      rcases Nat.lt_or_ge st.rounds.length 13 with h1 | h1
      · exact h1
      · unfold TS.sErr at he; rw [hop, if_neg (by decide), if_pos h1] at he; simp at he
    cases hm : st.whole with
    | none => unfold TS.sErr at he; rw [hop, if_neg (by decide), if_neg (by omega), hm] at he; simp at he
    | some m => exact start_ok B p st x m w h hop hc hm
  · exact start_bad B p st x w h he

/-- The last round. -/
def TS.lastR (st : TS) : List D := st.rounds.getD (st.rounds.length - 1) []
def TS.lastS (st : TS) : List Int := st.scores.getD (st.rounds.length - 1) []
def TS.rErr (st : TS) (d s : Int) : Int := if s < 0 ∨ 2 < s then 2 else if st.open_ = false then 8 else if d < 0 ∨ (st.lastR.length : Int) ≤ d ∨ (dth st.lastR d.toNat).b < 0 then 9 else 0
def TS.report (st : TS) (d s : Int) : TS := if st.rErr d s = 0 then ⟨st.n, st.rounds, st.scores.set (st.rounds.length - 1) (st.lastS.set d.toNat s), st.open_⟩ else st
def TS.cErr (st : TS) : Int := if st.open_ = false then 8 else if (-1 : Int) ∈ st.lastS then 10 else 0
def TS.close (st : TS) : TS := if st.cErr = 0 then ⟨st.n, st.rounds, st.scores, false⟩ else st
/-- What a call that turns the tournament alone hands back. -/
def TurnEnd (B p : Nat) (x : TC) (st' : TS) (n : Int) (w : World) (e : Ending) (w' : World) : Prop := e = .returned (.int .i64 n) ∧ Tn w' B p st' x ∧ OnlyF (MutT p x) w w'

theorem last_get {st : TS} (h : st.WF) (hop : st.open_ = true) : st.rounds[st.rounds.length - 1]? = some st.lastR ∧ st.scores[st.rounds.length - 1]? = some st.lastS ∧ 0 < st.rounds.length := by
  have h1 := h.op hop
  have h2 := h.len
  refine ⟨?_, ?_, h1⟩
  · unfold TS.lastR; simp [List.getD, List.getElem?_eq_getElem (show st.rounds.length - 1 < st.rounds.length by omega)]
  · unfold TS.lastS; simp [List.getD, List.getElem?_eq_getElem (show st.rounds.length - 1 < st.scores.length by omega)]

set_option maxHeartbeats 800000 in
theorem close_any (B p : Nat) (st : TS) (x : TC) (w : World) (h : Tn w B p st x) : Calls Try.prog 12 #[.pointer (some ⟨p, 0, none⟩)] w (TurnEnd B p x st.close st.cErr w) := by
  obtain ⟨mA, mc, ms, RA, rc, rs, SA, sq, sts⟩ := x
  have HT := Lib.hid h
  have x3 : w.cell? ⟨p, 3, none⟩ = some (.bool st.open_) := (h.blk.at_ 3).trans rfl
  have f3 := h.blk.free 3
  have hp := h.blk.lt
  cases hop : st.open_ with
  | false =>
    have HE : Hid (st.cErr = 8) := Lib.hid (by unfold TS.cErr; rw [if_pos hop])
    have HS : Hid (st.close = st) := Lib.hid (by unfold TS.close; rw [HE.out, if_neg (by decide)])
    rw [hop] at x3
    clear h
    go_enter Try.func12, Try.ntmps12
    go_wp2_with (go_at_call 25; refine (none_f B p st _ _ HT.out).mono ?_; rintro e w1 ⟨rfl, rfl⟩)
    go_ret
    exact ⟨by rw [HE.out]; rfl, by rw [HS.out]; exact HT.out, OnlyF.refl _⟩
  | true =>
    rw [hop] at x3
    obtain ⟨hl1, hl2, hl3⟩ := last_get h.ok hop
    obtain ⟨K, hK⟩ : ∃ K, st.rounds.length = K + 1 := ⟨st.rounds.length - 1, by omega⟩
    have hk : st.rounds.length - 1 = K := by omega
    rw [hk] at hl1 hl2
    obtain ⟨t, ht⟩ : ∃ t, sts[K]? = some t := ⟨_, List.getElem?_eq_getElem (by have := h.ss_len; simp only at this; omega)⟩
    obtain ⟨g2, hg2, _, hg2lt, hc2, _⟩ := h.scs.cell (j := K) (u := t.v) (by simp only [svs, List.getElem?_map]; rw [ht]; rfl)
    have hi := h.isc K t st.lastS ht hl2
    have x2 : w.cell? ⟨p, 2, none⟩ = some (.slice SA st.rounds.length sq) := (h.blk.at_ 2).trans rfl
    have hcnt := h.ok.cnt
    rw [hK] at x2 hcnt
    obtain ⟨tA, tn, tc⟩ := t
    simp only [Sl.v] at hc2
    dsimp only at hg2
    subst hg2
    have HI := Lib.hid hi
    have hsl := h.ok.sco K _ _ hl1 hl2
    have hrl := round_len (h.ok.rnd _ (List.mem_of_getElem? hl1))
    have hn := h.ok.n0
    have htn : tn ≤ 100000 := by have h1 : st.lastS.length = tn := ilen hi.reads; have := hsl.1; omega
    have hkw : IntKind.i64.wrap ((K : Int) + 1 - 1) = K := by rw [IntWalk.i64_in _ (by omega)]; omega
    have hkk : (K : Int) < (K : Int) + 1 := by omega
    have hk0 : (0 : Int) ≤ K := by omega
    have b3 : ∀ s : Later w.heap.size w, s.W.cell? ⟨p, 2, none⟩ = some (.slice (some ⟨g2, 0, none⟩) (K + 1) sq) := fun s => (s.h.cell (p := ⟨p, 2, none⟩) hp).trans x2
    have b4 : ∀ s : Later w.heap.size w, s.W.cell? ⟨g2, K, none⟩ = some (.slice tA tn tc) := fun s => (s.h.cell (p := ⟨g2, K, none⟩) hg2lt).trans hc2
    have HCN : Hid (∀ s : Later w.heap.size w, Calls Try.prog 28 #[.slice tA tn tc, .int .i64 (-1)] s.W fun e w' => e = .returned (.bool (decide ((-1 : Int) ∈ st.lastS))) ∧ s.W = w') := Lib.hid fun s => contains_any tA tn tc st.lastS (-1) s.W (HI.out.below s.h).reads htn
    have HCE : Hid (st.cErr = if (-1 : Int) ∈ st.lastS then 10 else 0) := Lib.hid (by unfold TS.cErr; rw [if_neg (by rw [hop]; decide)])
    have HWF := Lib.hid h.ok
    clear h hi hsl hl1 hl2 ht
    go_enter Try.func12, Try.ntmps12
    go_wp2_with (go_at_call 25; refine (none_f B p st _ _ HT.out).mono ?_; rintro e w1 ⟨rfl, rfl⟩)
    refine wp_region_later (B := w.heap.size) (w0 := w) (Below.refl _ _) (by kernel_rfl) (by kernel_rfl) ?_
    repeat (go_big_quiet_step ((go_at_call 28; with_reducible exact Calls.later_same (HCN.out _))))
    refine wpQuiet_nil ?_
    intro _ hw'
    obtain ⟨s, hw2⟩ := hw'
    subst hw2
    obtain ⟨w2, hb2⟩ := s
    have hz2 := hb2.size
    have HT2 := Lib.hid (HT.out.below hb2)
    have y3 : w2.cell? ⟨p, 3, none⟩ = some (.bool true) := (hb2.cell (p := ⟨p, 3, none⟩) hp).trans x3
    have g3 := HT2.out.blk.free 3
    have hp2 := HT2.out.blk.lt
    clear b3 b4 HCN x2 x3 f3
    by_cases hin : (-1 : Int) ∈ st.lastS
    · have HE : Hid (st.cErr = 10) := Lib.hid (by rw [HCE.out, if_pos hin])
      have HS : Hid (st.close = st) := Lib.hid (by unfold TS.close; rw [HE.out, if_neg (by decide)])
      have hd : decide ((-1 : Int) ∈ st.lastS) = true := decide_eq_true hin
      rw [hd]
      clear hd hin
      go_wp2
      go_ret
      exact ⟨by rw [HE.out]; rfl, by rw [HS.out]; exact HT2.out, OnlyF.of_below hb2⟩
    · have HE : Hid (st.cErr = 0) := Lib.hid (by rw [HCE.out, if_neg hin])
      have HS : Hid (st.close = ⟨st.n, st.rounds, st.scores, false⟩) := Lib.hid (by unfold TS.close; rw [HE.out, if_pos rfl])
      have hd : decide ((-1 : Int) ∈ st.lastS) = false := decide_eq_false hin
      rw [hd]
      clear hd hin
      go_wp2
      go_ret
      refine ⟨by rw [HE.out]; rfl, ?_, (OnlyF.of_below hb2).put (p := ⟨p, 3, none⟩) (.inl (.inl rfl)) _⟩
      rw [HS.out]
      have h := HT2.out
      exact ⟨h.blk.put 3 _, h.base, h.met.put (h.met.apart_blk h.blk (by decide)), h.rds.put (h.rds.apart_blk h.blk (by decide)), h.scs.put (h.scs.apart_blk h.blk (by decide)), fun k s l h1 h2 => (h.ird k s l h1 h2).put ((h.ird k s l h1 h2).apart_blk h.blk (by decide)), fun k s l h1 h2 => (h.isc k s l h1 h2).put ((h.isc k s l h1 h2).apart_blk h.blk (by decide)), h.sep, h.mok, ⟨h.ok.n0, h.ok.len, h.ok.cnt, h.ok.rnd, h.ok.sco, fun h => by cases h⟩⟩

theorem set_get {α : Type} {l : List α} {i k : Nat} {v z : α} (h : (l.set i v)[k]? = some z) : (k = i ∧ z = v) ∨ (k ≠ i ∧ l[k]? = some z) := by
  rw [List.getElem?_set] at h
  by_cases hk : i = k
  · subst hk
    rw [if_pos rfl] at h
    split at h
    · injection h with h
      exact .inl ⟨rfl, h.symm⟩
    · cases h
  · rw [if_neg hk] at h
    exact .inr ⟨fun e => hk e.symm, h⟩
theorem tn_report {w : World} {B p K d gt tc tn : Nat} {s : Int} {st : TS} {x : TC} (h : Tn w B p st x) (ht : x.ss[K]? = some ⟨some ⟨gt, 0, none⟩, tn, tc⟩) (h1 : st.rounds[K]? = some st.lastR) (h2 : st.scores[K]? = some st.lastS) (hlen : st.lastS.length = st.lastR.length) (hs : 0 ≤ s ∧ s ≤ 2) :
    Tn (w.setCell ⟨gt, d, none⟩ (.int .i64 s)) B p ⟨st.n, st.rounds, st.scores.set K (st.lastS.set d s), st.open_⟩ x := by
  have hi := h.isc K _ _ ht h2
  refine ⟨h.blk.far (fun e => hi.apart_blk h.blk (by decide) (by rw [e]; rfl)) _, h.base, h.met.put (fun e => ?_), h.rds.put (fun e => ?_), h.scs.put (fun e => ?_), fun k t l g1 g2 => (h.ird k t l g1 g2).put (fun e => ?_), fun k t l g1 g2 => ?_, h.sep, h.mok, ⟨h.ok.n0, by simp [h.ok.len], h.ok.cnt, h.ok.rnd, fun k l t g1 g2 => ?_, h.ok.op⟩⟩
  · rcases h.met.apart hi (by decide) with g | g
    · rw [g] at e; cases e
    · exact g e
  · rcases h.rds.apart hi (by decide) with g | g
    · rw [g] at e; cases e
    · exact g e
  · rcases h.scs.apart hi (by decide) with g | g
    · rw [g] at e; cases e
    · exact g e
  · rcases (h.ird k t l g1 g2).apart hi (by decide) with g | g
    · rw [g] at e; cases e
    · exact g e
  · rcases set_get g2 with ⟨rfl, rfl⟩ | ⟨hk, g3⟩
    · rw [ht] at g1
      injection g1 with g1
      subst g1
      exact hi.store d s
    · refine (h.isc k t l g1 g3).put (fun e => ?_)
      rcases Nat.lt_or_ge k K with hlt | hge
      · rcases h.sep k K t _ hlt g1 ht with g | g
        · cases g
        · exact g e
      · rcases h.sep K k _ t (by omega) ht g1 with g | g
        · rw [g] at e; cases e
        · exact g e.symm
  · rcases set_get g2 with ⟨rfl, rfl⟩ | ⟨hk, g3⟩
    · have g1' : st.rounds[k]? = some l := g1
      rw [h1] at g1'
      injection g1' with g1'
      subst g1'
      refine ⟨by rw [List.length_set]; exact hlen, fun y hy => ?_⟩
      rcases List.mem_or_eq_of_mem_set hy with hy | rfl
      · exact (h.ok.sco k _ _ h1 h2).2 y hy
      · omega
    · exact h.ok.sco k l t g1 g3
theorem TurnEnd.bad {B p : Nat} {x : TC} {st st' : TS} {n m : Int} {w : World} (h : Tn w B p st x) (hs : st' = st) (hn : n = m) : TurnEnd B p x st' n w (.returned (.int .i64 m)) w := by
  subst hs hn
  exact ⟨rfl, h, OnlyF.refl _⟩
theorem report_same {st : TS} {d s : Int} (h : st.rErr d s ≠ 0) : st.report d s = st := by unfold TS.report; rw [if_neg h]
set_option maxHeartbeats 800000 in
theorem report_any (B p : Nat) (st : TS) (x : TC) (d s : Int) (w : World) (h : Tn w B p st x) : Calls Try.prog 11 #[.pointer (some ⟨p, 0, none⟩), .int .i64 d, .int .i64 s] w (TurnEnd B p x (st.report d s) (st.rErr d s) w) := by
  obtain ⟨mA, mc, ms, RA, rc, rs, SA, sq, sts⟩ := x
  have HT := Lib.hid h
  have x3 : w.cell? ⟨p, 3, none⟩ = some (.bool st.open_) := (h.blk.at_ 3).trans rfl
  have hp := h.blk.lt
  by_cases hs : s < 0 ∨ 2 < s
  · have HE : Hid (st.rErr d s = 2) := Lib.hid (by unfold TS.rErr; rw [if_pos hs])
    have HS := Lib.hid (report_same (st := st) (d := d) (s := s) (by rw [HE.out]; decide))
    clear h x3
    rcases Int.lt_or_le s 0 with h0 | h0
    · clear hs
      go_enter Try.func11, Try.ntmps11
      go_wp2_with (go_at_call 25; refine (none_f B p st _ _ HT.out).mono ?_; rintro e w1 ⟨rfl, rfl⟩)
      go_ret
      exact TurnEnd.bad HT.out HS.out HE.out
    · have h1 : decide (s < 0) = false := decide_eq_false (by omega)
      have h2 : 2 < s := by omega
      clear hs h0
      go_enter Try.func11, Try.ntmps11
      go_wp2_with (go_at_call 25; refine (none_f B p st _ _ HT.out).mono ?_; rintro e w1 ⟨rfl, rfl⟩)
      go_ret
      exact TurnEnd.bad HT.out HS.out HE.out
  · have h1 : decide (s < 0) = false := decide_eq_false (by omega)
    have h2 : decide (2 < s) = false := decide_eq_false (by omega)
    have hs1 : 0 ≤ s := by omega
    have hs2 : s ≤ 2 := by omega
    cases hop : st.open_ with
    | false =>
      have HE : Hid (st.rErr d s = 8) := Lib.hid (by unfold TS.rErr; rw [if_neg hs, if_pos hop])
      have HS := Lib.hid (report_same (st := st) (d := d) (s := s) (by rw [HE.out]; decide))
      rw [hop] at x3
      clear h hs hs1 hs2
      go_enter Try.func11, Try.ntmps11
      go_wp2_with (go_at_call 25; refine (none_f B p st _ _ HT.out).mono ?_; rintro e w1 ⟨rfl, rfl⟩)
      go_ret
      exact TurnEnd.bad HT.out HS.out HE.out
    | true =>
      rw [hop] at x3
      obtain ⟨hl1, hl2, hl3⟩ := last_get h.ok hop
      obtain ⟨K, hK⟩ : ∃ K, st.rounds.length = K + 1 := ⟨st.rounds.length - 1, by omega⟩
      have hk : st.rounds.length - 1 = K := by omega
      rw [hk] at hl1 hl2
      have HKK := Lib.hid hk
      have HE0 : Hid (st.rErr d s = if d < 0 ∨ (st.lastR.length : Int) ≤ d ∨ (dth st.lastR d.toNat).b < 0 then 9 else 0) := Lib.hid (by unfold TS.rErr; rw [if_neg hs, if_neg (by rw [hop]; decide)])
      obtain ⟨r, hr⟩ : ∃ t, rs[K]? = some t := ⟨_, List.getElem?_eq_getElem (by have := h.rs_len; simp only at this; omega)⟩
      obtain ⟨t, ht⟩ : ∃ t, sts[K]? = some t := ⟨_, List.getElem?_eq_getElem (by have := h.ss_len; simp only at this; omega)⟩
      obtain ⟨g1, hg1, _, hg1lt, hc1, _⟩ := h.rds.cell (j := K) (u := r.v) (by simp only [svs, List.getElem?_map]; rw [hr]; rfl)
      obtain ⟨g2, hg2, _, hg2lt, hc2, _⟩ := h.scs.cell (j := K) (u := t.v) (by simp only [svs, List.getElem?_map]; rw [ht]; rfl)
      have hi := h.isc K t st.lastS ht hl2
      have hir := h.ird K r st.lastR hr hl1
      have x1 : w.cell? ⟨p, 1, none⟩ = some (.slice RA st.rounds.length rc) := (h.blk.at_ 1).trans rfl
      have x2 : w.cell? ⟨p, 2, none⟩ = some (.slice SA st.rounds.length sq) := (h.blk.at_ 2).trans rfl
      have hcnt := h.ok.cnt
      rw [hK] at x1 x2 hcnt
      have hsl := h.ok.sco K _ _ hl1 hl2
      have hrl := round_len (h.ok.rnd _ (List.mem_of_getElem? hl1))
      have hn := h.ok.n0
      have hrn : r.n = st.lastR.length := by have := hir.len; rw [dcells_len] at this; omega
      have htn : t.n = st.lastR.length := by have h1 : st.lastS.length = t.n := ilen hi.reads; have := hsl.1; omega
      have HTT := Lib.hid ht
      obtain ⟨tA, tn, tc⟩ := t
      obtain ⟨rA, rn, rc2⟩ := r
      simp only [Sl.v] at hc1 hc2 hrn htn hi hir
      dsimp only at hg1 hg2
      subst hg1 hg2 hrn htn
      have HI := Lib.hid hi
      have HIR := Lib.hid hir
      have HSL := Lib.hid hsl
      have HL1 := Lib.hid hl1
      have HL2 := Lib.hid hl2
      have hkw : IntKind.i64.wrap ((K : Int) + 1 - 1) = K := by rw [IntWalk.i64_in _ (by omega)]; omega
      have hkk : (K : Int) < (K : Int) + 1 := by omega
      have hk0 : (0 : Int) ≤ K := by omega
      clear h hi hir hsl hl1 hl2 ht hr hs
      by_cases hd0 : d < 0
      · have HE : Hid (st.rErr d s = 9) := Lib.hid (by rw [HE0.out, if_pos (.inl hd0)])
        have HS := Lib.hid (report_same (st := st) (d := d) (s := s) (by rw [HE.out]; decide))
        go_enter Try.func11, Try.ntmps11
        go_wp2_with (go_at_call 25; refine (none_f B p st _ _ HT.out).mono ?_; rintro e w1 ⟨rfl, rfl⟩)
        go_ret
        exact TurnEnd.bad HT.out HS.out HE.out
      · by_cases hd1 : (st.lastR.length : Int) ≤ d
        · have HE : Hid (st.rErr d s = 9) := Lib.hid (by rw [HE0.out, if_pos (.inr (.inl hd1))])
          have HS := Lib.hid (report_same (st := st) (d := d) (s := s) (by rw [HE.out]; decide))
          have h3 : decide (d < 0) = false := decide_eq_false hd0
          clear hd0
          go_enter Try.func11, Try.ntmps11
          go_wp2_with (go_at_call 25; refine (none_f B p st _ _ HT.out).mono ?_; rintro e w1 ⟨rfl, rfl⟩)
          go_ret
          exact TurnEnd.bad HT.out HS.out HE.out
        · obtain ⟨d, rfl⟩ : ∃ k : Nat, d = k := ⟨d.toNat, by omega⟩
          have hdl : d < st.lastR.length := by omega
          have hdl' : (d : Int) < st.lastR.length := by omega
          have h3 : decide ((d : Int) < 0) = false := decide_eq_false hd0
          have h4 : decide ((st.lastR.length : Int) ≤ d) = false := decide_eq_false hd1
          obtain ⟨ad, hrA, had, c0, c1⟩ := duel_at HIR.out.reads hdl
          subst hrA
          rw [Int.toNat_natCast] at HE0
          clear hd0 hd1
          by_cases hb : (dth st.lastR d).b < 0
          · have HE : Hid (st.rErr d s = 9) := Lib.hid (by rw [HE0.out, if_pos (.inr (.inr hb))])
            have HS := Lib.hid (report_same (st := st) (d := d) (s := s) (by rw [HE.out]; decide))
            go_enter Try.func11, Try.ntmps11
            go_wp2_with (go_at_call 25; refine (none_f B p st _ _ HT.out).mono ?_; rintro e w1 ⟨rfl, rfl⟩)
            go_ret
            exact TurnEnd.bad HT.out HS.out HE.out
          · have HE : Hid (st.rErr d s = 0) := Lib.hid (by rw [HE0.out, if_neg (by simp only [not_or]; exact ⟨by omega, by omega, hb⟩)])
            have HS : Hid (st.report d s = ⟨st.n, st.rounds, st.scores.set K (st.lastS.set d s), st.open_⟩) := Lib.hid (by unfold TS.report; rw [if_pos HE.out, HKK.out, Int.toNat_natCast])
            have h5 : decide ((dth st.lastR d).b < 0) = false := decide_eq_false hb
            obtain ⟨gt, htA, _, hgt, e0, f0⟩ := HI.out.cell (j := d) (u := .int .i64 (ith st.lastS d)) (by rw [ics, List.getElem?_map, ith_get (by have := HSL.out.1; omega)]; rfl)
            subst htA
            clear hb
            go_enter Try.func11, Try.ntmps11
            go_wp2_with (go_at_call 25; refine (none_f B p st _ _ HT.out).mono ?_; rintro e w1 ⟨rfl, rfl⟩)
            go_ret
            refine ⟨by rw [HE.out]; rfl, ?_, (OnlyF.refl _).put (p := ⟨gt, d, none⟩) (.inl (.inr (.inr (.inr (.inr ⟨K, _, HTT.out, rfl⟩))))) _⟩
            rw [HS.out]
            exact tn_report HT.out HTT.out HL1.out HL2.out HSL.out.1 (by omega)
end Go.Proofs.Ytngcmihaheiigaa
