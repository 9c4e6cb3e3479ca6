/-
  The model's report and end.
-/
import Derived.Test.YtngcmihaheiigaaMSt
import Derived.Test.YtngcmihaheiigaaAlk
set_option linter.unusedSimpArgs false
set_option linter.unusedVariables false
namespace Go.Proofs.Ytngcmihaheiigaa
open Go.RowKit

/-- What a call that turns the model hands back. -/
def MTurnEnd (B p : Nat) (y : MC) (st' : TS) (n : Int) (w : World) (e : Ending) (w' : World) : Prop := ∃ y', e = .returned (.int .i64 n) ∧ Mn w' B p st' y' ∧ OnlyF (MutM p y) w w' ∧ ∀ i, FootM p y' i → FootM p y i ∨ w.heap.size ≤ i
theorem MTurnEnd.bad {B p : Nat} {y : MC} {st st' : TS} {n m : Int} {w : World} (h : Mn w B p st y) (hs : st' = st) (hn : n = m) : MTurnEnd B p y st' n w (.returned (.int .i64 m)) w := by
  subst hs hn
  exact ⟨y, rfl, h, OnlyF.refl _, fun i hi => .inl hi⟩
theorem mn_report {w : World} {B p K d g2 ga b8 tn c2 : Nat} {s : Int} {st : TS} {RA : Option Addr} {rc sq : Nat} {rs sts : List Sl} (h : Mn w B p st ⟨RA, rc, rs, some ⟨g2, 0, none⟩, sq, sts⟩) (ho : XOwns w b8 34 1 (some ⟨ga, 0, none⟩) tn c2 (ics st.lastS)) (hf : ∀ i, FootM p ⟨RA, rc, rs, some ⟨g2, 0, none⟩, sq, sts⟩ i → i < ga) (hB : B ≤ b8) (hK : K < st.rounds.length)
    (h1 : st.rounds[K]? = some st.lastR) (h2 : st.scores[K]? = some st.lastS) (hlen : st.lastS.length = st.lastR.length) (hs : 0 ≤ s ∧ s ≤ 2) :
    Mn ((w.setCell ⟨g2, K, none⟩ (.slice (some ⟨ga, 0, none⟩) tn c2)).setCell ⟨ga, d, none⟩ (.int .i64 s)) B p ⟨st.n, st.rounds, st.scores.set K (st.lastS.set d s), st.open_⟩ ⟨RA, rc, rs, some ⟨g2, 0, none⟩, sq, sts.set K ⟨some ⟨ga, 0, none⟩, tn, c2⟩⟩ := by
  have two : ∀ {b e size A n c xs} , XOwns w b e size A n c xs → e ≠ 66 → (∀ i, blkOf A = some i → i < ga) → XOwns ((w.setCell ⟨g2, K, none⟩ (.slice (some ⟨ga, 0, none⟩) tn c2)).setCell ⟨ga, d, none⟩ (.int .i64 s)) b e size A n c xs := fun hx hne hlt => by
    refine (hx.put ?_).put (fun e => Nat.lt_irrefl _ (hlt ga e))
    intro e
    rcases hx.apart h.scs hne with g | g
    · rw [g] at e; cases e
    · exact g e
  have hg2 : g2 < ga := hf g2 (.inl (.inr (.inr rfl)))
  have hp : p < ga := hf p (.inl (.inl rfl))
  refine ⟨(h.blk.far (fun e => h.scs.apart_blk h.blk (by decide) (by rw [e]; rfl)) _).far (fun e => by have e2 : p = ga := e; omega) _, h.base, two h.rds (by decide) (fun i hi => hf i (.inl (.inr (.inl hi)))), ?_, fun k t l g1 g2 => two (h.ird k t l g1 g2) (by decide) (fun i hi => hf i (.inr (.inl ⟨k, t, g1, hi⟩))), fun k t l g1 g3 => ?_, ⟨h.ok.n0, by simp [h.ok.len], h.ok.cnt, h.ok.rnd, fun k l t g1 g2 => ?_, h.ok.op⟩⟩
  · have hx := h.scs.setX K (.slice (some ⟨ga, 0, none⟩) tn c2)
    rw [show (svs sts).set K (.slice (some ⟨ga, 0, none⟩) tn c2) = svs (sts.set K ⟨some ⟨ga, 0, none⟩, tn, c2⟩) by simp [svs, Sl.v]] at hx
    exact hx.put (fun e => by injection e with e; have e2 : g2 = ga := e; omega)
  · have g1' : (sts.set K ⟨some ⟨ga, 0, none⟩, tn, c2⟩)[k]? = some t := g1
    have g3' : (st.scores.set K (st.lastS.set d s))[k]? = some l := g3
    rcases set_get g3' with ⟨rfl, rfl⟩ | ⟨hk, g4⟩
    · rcases set_get g1' with ⟨_, rfl⟩ | ⟨hk, _⟩
      · refine ((ho.put ?_).store d s).more hB
        intro e
        injection e with e
        have e2 : ga = g2 := e
        omega
      · exact absurd rfl hk
    · rcases set_get g1' with ⟨rfl, _⟩ | ⟨_, g5⟩
      · exact absurd rfl hk
      · exact two (h.isc k t l g5 g4) (by decide) (fun i hi => hf i (.inr (.inr ⟨k, t, g5, hi⟩)))
  · rcases set_get g2 with ⟨rfl, rfl⟩ | ⟨hk, g3⟩
    · have g1' : st.rounds[k]? = some l := g1
      rw [h1] at g1'
      injection g1' with g1'
      subst g1'
      refine ⟨by rw [List.length_set]; exact hlen, fun y hy => ?_⟩
      rcases List.mem_or_eq_of_mem_set hy with hy | rfl
      · exact (h.ok.sco k _ _ h1 h2).2 y hy
      · omega
    · exact h.ok.sco k l t g1 g3

set_option maxRecDepth 100000 in
set_option maxHeartbeats 1600000 in
theorem mreport_any (B p : Nat) (st : TS) (y : MC) (d s : Int) (w : World) (h : Mn w B p st y) : Calls Try.prog 17 #[.pointer (some ⟨p, 0, none⟩), .int .i64 d, .int .i64 s] w (MTurnEnd B p y (st.report d s) (st.rErr d s) w) := by
  obtain ⟨RA, rc, rs, SA, sq, sts⟩ := y
  have HT := Lib.hid h
  have x3 : w.cell? ⟨p, 3, none⟩ = some (.bool st.open_) := (h.blk.at_ 3).trans rfl
  have hp := h.blk.lt
  by_cases hs : s < 0 ∨ 2 < s
  · have HE : Hid (st.rErr d s = 2) := Lib.hid (by unfold TS.rErr; rw [if_pos hs])
    have HS := Lib.hid (report_same (st := st) (d := d) (s := s) (by rw [HE.out]; decide))
    clear h x3
    rcases Int.lt_or_le s 0 with h0 | h0
    · clear hs
      go_enter Try.func17, Try.ntmps17
      go_wp2
      go_ret
      exact MTurnEnd.bad HT.out HS.out HE.out
    · have h1 : decide (s < 0) = false := decide_eq_false (by omega)
      have h2 : 2 < s := by omega
      clear hs h0
      go_enter Try.func17, Try.ntmps17
      go_wp2
      go_ret
      exact MTurnEnd.bad HT.out HS.out HE.out
  · have h1 : decide (s < 0) = false := decide_eq_false (by omega)
    have h2 : decide (2 < s) = false := decide_eq_false (by omega)
    have hs1 : 0 ≤ s := by omega
    have hs2 : s ≤ 2 := by omega
    cases hop : st.open_ with
    | false =>
      have HE : Hid (st.rErr d s = 8) := Lib.hid (by unfold TS.rErr; rw [if_neg hs, if_pos hop])
      have HS := Lib.hid (report_same (st := st) (d := d) (s := s) (by rw [HE.out]; decide))
      rw [hop] at x3
      clear h hs hs1 hs2 hop
      go_enter Try.func17, Try.ntmps17
      go_wp2
      go_ret
      exact MTurnEnd.bad HT.out HS.out HE.out
    | true =>
      rw [hop] at x3
      obtain ⟨hl1, hl2, hl3⟩ := last_get h.ok hop
      obtain ⟨K, hK⟩ : ∃ K, st.rounds.length = K + 1 := ⟨st.rounds.length - 1, by omega⟩
      have hk : st.rounds.length - 1 = K := by omega
      rw [hk] at hl1 hl2
      have HKK := Lib.hid hk
      have HE0 : Hid (st.rErr d s = if d < 0 ∨ (st.lastR.length : Int) ≤ d ∨ (dth st.lastR d.toNat).b < 0 then 9 else 0) := Lib.hid (by unfold TS.rErr; rw [if_neg hs, if_neg (by rw [hop]; decide)])
      obtain ⟨r, hr⟩ : ∃ t, rs[K]? = some t := ⟨_, List.getElem?_eq_getElem (by have := h.rs_len; simp only at this; omega)⟩
      obtain ⟨t, ht⟩ : ∃ t, sts[K]? = some t := ⟨_, List.getElem?_eq_getElem (by have := h.ss_len; simp only at this; omega)⟩
      obtain ⟨g1, hg1, _, hg1lt, hc1, _⟩ := h.rds.cell (j := K) (u := r.v) (by simp only [svs, List.getElem?_map]; rw [hr]; rfl)
      obtain ⟨g2, hg2, _, hg2lt, hc2, hf2⟩ := h.scs.cell (j := K) (u := t.v) (by simp only [svs, List.getElem?_map]; rw [ht]; rfl)
      have hi := h.isc K t st.lastS ht hl2
      have hir := h.ird K r st.lastR hr hl1
      have x1 : w.cell? ⟨p, 1, none⟩ = some (.slice RA st.rounds.length rc) := (h.blk.at_ 1).trans rfl
      have x2 : w.cell? ⟨p, 2, none⟩ = some (.slice SA st.rounds.length sq) := (h.blk.at_ 2).trans rfl
      have hcnt := h.ok.cnt
      have HRK := Lib.hid hK
      rw [hK] at x1 x2 hcnt
      have hsl := h.ok.sco K _ _ hl1 hl2
      have hro := h.ok.rnd _ (List.mem_of_getElem? hl1)
      have hrl := round_len hro
      have hn := h.ok.n0
      have hrn : r.n = st.lastR.length := by have := hir.len; rw [dcells_len] at this; omega
      have htn : t.n = st.lastR.length := by have h1 : st.lastS.length = t.n := ilen hi.reads; have := hsl.1; omega
      have HTT := Lib.hid ht
      obtain ⟨tA, tn, tc⟩ := t
      obtain ⟨rA, rn, rc2⟩ := r
      simp only [Sl.v] at hc1 hc2 hrn htn hi hir
      dsimp only at hg1 hg2
      subst hg1 hg2 hrn htn
      have HI := Lib.hid hi
      have HIR := Lib.hid hir
      have HSL := Lib.hid hsl
      have HL1 := Lib.hid hl1
      have HL2 := Lib.hid hl2
      have HRO := Lib.hid hro
      have hkw : IntKind.i64.wrap ((K : Int) + 1 - 1) = K := by rw [IntWalk.i64_in _ (by omega)]; omega
      have hkk : (K : Int) < (K : Int) + 1 := by omega
      have hk0 : (0 : Int) ≤ K := by omega
      clear h hi hir hsl hl1 hl2 ht hr hs hro hop hK hk
      by_cases hd0 : d < 0
      · have HE : Hid (st.rErr d s = 9) := Lib.hid (by rw [HE0.out, if_pos (.inl hd0)])
        have HS := Lib.hid (report_same (st := st) (d := d) (s := s) (by rw [HE.out]; decide))
        go_enter Try.func17, Try.ntmps17
        go_wp2
        go_ret
        exact MTurnEnd.bad HT.out HS.out HE.out
      · by_cases hd1 : (st.lastR.length : Int) ≤ d
        · have HE : Hid (st.rErr d s = 9) := Lib.hid (by rw [HE0.out, if_pos (.inr (.inl hd1))])
          have HS := Lib.hid (report_same (st := st) (d := d) (s := s) (by rw [HE.out]; decide))
          have h3 : decide (d < 0) = false := decide_eq_false hd0
          clear hd0
          go_enter Try.func17, Try.ntmps17
          go_wp2
          go_ret
          exact MTurnEnd.bad HT.out HS.out HE.out
        · obtain ⟨d, rfl⟩ : ∃ k : Nat, d = k := ⟨d.toNat, by omega⟩
          have hdl : d < st.lastR.length := by omega
          have hdl' : (d : Int) < st.lastR.length := by omega
          have h3 : decide ((d : Int) < 0) = false := decide_eq_false hd0
          have h4 : decide ((st.lastR.length : Int) ≤ d) = false := decide_eq_false hd1
          obtain ⟨ad, hrA, -, c0, c1⟩ := duel_at HIR.out.reads hdl
          subst hrA
          rw [Int.toNat_natCast] at HE0
          have hdb : (dth st.lastR d).b = -1 ∨ 0 ≤ (dth st.lastR d).b := by rcases (HRO.out.1 _ (List.mem_of_getElem? (dth_get hdl))).2.2 with h | h <;> omega
          generalize (dth st.lastR d).b = db at *
          clear hd0 hd1 c0
          rcases hdb with rfl | hb
          · have HE : Hid (st.rErr d s = 9) := Lib.hid (by rw [HE0.out, if_pos (.inr (.inr (by decide)))])
            have HS := Lib.hid (report_same (st := st) (d := d) (s := s) (by rw [HE.out]; decide))
            go_enter Try.func17, Try.ntmps17
            go_wp2
            go_ret
            exact MTurnEnd.bad HT.out HS.out HE.out
          · have HE : Hid (st.rErr d s = 0) := Lib.hid (by rw [HE0.out, if_neg (by simp only [not_or]; exact ⟨by omega, by omega, by omega⟩)])
            have HS : Hid (st.report d s = ⟨st.n, st.rounds, st.scores.set K (st.lastS.set d s), st.open_⟩) := Lib.hid (by unfold TS.report; rw [if_pos HE.out, HKK.out, Int.toNat_natCast])
            have h5 : (db == -1) = false := by rw [beq_eq_false_iff_ne]; omega
            have b2 : ∀ s : Later w.heap.size w, s.W.cell? ⟨p, 2, none⟩ = some (.slice (some ⟨g2, 0, none⟩) (K + 1) sq) := fun s => (s.h.cell (p := ⟨p, 2, none⟩) hp).trans x2
            have b4 : ∀ s : Later w.heap.size w, s.W.cell? ⟨g2, K, none⟩ = some (.slice tA st.lastR.length tc) := fun s => (s.h.cell (p := ⟨g2, K, none⟩) hg2lt).trans hc2
            go_enter Try.func17, Try.ntmps17
            go_wp2
            refine wp_region_late (Ph (fun w' => ∃ s : Later w.heap.size w, w' = s.W) (fun _ => True)) [14] [0,1,2,3,4,5,6,7,8,9,10,11] (.one 12 [13] (.one 14 [] .done)) (by kernel_rfl) (by kernel_rfl) (fun d _ _ _ _ h => by cases d <;> exact h) ⟨⟨_, (Below.refl _ _).drew⟩, rfl⟩ ?_
            refine quiet_as (C' := (fun w' => ∃ s : Later w.heap.size w, w' = s.W)) rfl ?_
            simp only [opsAt, List.getElem?_toArray, List.getElem?_cons_succ, List.getElem?_cons_zero]
            repeat (go_big_quiet_step (fail))
            refine wpQuiet_nil ?_
            refine eff_as (C' := (fun w' => ∃ s : Later w.heap.size w, w' = s.W)) rfl ?_
            (refine eff_lit rfl rfl (fun KK hK => ?_))
            refine append_nil_op (w := w.drew) (.const (.slice none 0 0)) (.tmp 64) 66 rfl 34 (.int .i64 0) 1 8 Try.info34 Try.underlying66 rfl (by decide) ?_ tA st.lastR.length tc (ics st.lastS) ?_ HI.out.2 (HI.out.reads.below (Below.refl _ _).drew) (ics_one _) ?_ ?_ ?_
            · rfl
            · rfl
            · omega
            · omega
            intro A8 c8 w8 ho8 hb8
            simp only [Act.put, List.setIfInBounds_toArray, List.set_cons_succ, List.set_cons_zero]
            have hB8 : Below w.heap.size w w8 := (Below.refl _ _).drew.trans hb8
            have hz8 := hB8.size
            have HT8 := Lib.hid (HT.out.below hB8)
            have HO8 : Hid (XOwns w8 w.heap.size 34 1 A8 st.lastR.length c8 (ics st.lastS)) := Lib.hid ho8
            have y2 : w8.cell? ⟨p, 2, none⟩ = some (.slice (some ⟨g2, 0, none⟩) (K + 1) sq) := (hB8.cell (p := ⟨p, 2, none⟩) hp).trans x2
            have y4 : w8.cell? ⟨g2, K, none⟩ = some (.slice tA st.lastR.length tc) := (hB8.cell (p := ⟨g2, K, none⟩) hg2lt).trans hc2
            have y4f : w8.frozen? ⟨g2, K, none⟩ = false := (hB8.frozen (p := ⟨g2, K, none⟩) hg2lt).trans hf2
            have hgp : p ≠ g2 := fun e => HT8.out.scs.apart_blk HT8.out.blk (by decide) (by rw [e]; rfl)
            obtain ⟨ga, hA8, hga, hgal, e0, f0⟩ := HO8.out.cell (j := d) (u := .int .i64 (ith st.lastS d)) (by rw [ics, List.getElem?_map, ith_get (by have := HSL.out.1; omega)]; rfl)
            subst hA8
            have hgg : ga ≠ g2 := by omega
            have hgg2 : g2 < w8.heap.size := by omega
            refine hK _ _ ⟨⟨_, hB8⟩, rfl⟩ ?_
            clear hK b2 b4 ho8
            simp only [opsAt, List.getElem?_toArray, List.getElem?_cons_succ, List.getElem?_cons_zero]
            repeat (go_big_quiet_step (fail))
            refine wpQuiet_nil ?_
            refine eff_as (C' := fun _ => True) rfl ?_
            (refine eff_lit rfl rfl (fun KK hK => ?_))
            go_big_op
            refine hK _ _ trivial ?_
            clear hK
            simp only [opsAt, List.getElem?_toArray, List.getElem?_cons_succ, List.getElem?_cons_zero]
            refine wpQuiet_nil ?_
            refine effs_done ?_
            go_wp2
            go_ret
            refine ⟨⟨some ⟨g1, 0, none⟩, rc, rs, some ⟨g2, 0, none⟩, sq, sts.set K ⟨some ⟨ga, 0, none⟩, st.lastR.length, c8⟩⟩, by rw [HE.out]; rfl, ?_, ((OnlyF.of_below hB8).put (p := ⟨g2, K, none⟩) (.inl (.inr (.inr rfl))) _).put (p := ⟨ga, d, none⟩) (.inr hga) _, ?_⟩
            · rw [HS.out]
              exact mn_report HT8.out HO8.out (fun i hi => by have := (HT.out.foot i hi).2; omega) (by have := HT.out.base; omega) (by have := HRK.out; omega) HL1.out HL2.out HSL.out.1 (by omega)
            · rintro i ((rfl | hi | hi) | ⟨k, t, hk, hi⟩ | ⟨k, t, hk, hi⟩)
              · exact .inl (.inl (.inl rfl))
              · exact .inl (.inl (.inr (.inl hi)))
              · exact .inl (.inl (.inr (.inr hi)))
              · exact .inl (.inr (.inl ⟨k, t, hk, hi⟩))
              · rcases set_get hk with ⟨_, rfl⟩ | ⟨_, h3⟩
                · injection hi with hi
                  subst hi
                  exact .inr hga
                · exact .inl (.inr (.inr ⟨k, t, h3, hi⟩))

set_option maxRecDepth 100000 in
set_option maxHeartbeats 1600000 in
theorem mend_any (B p : Nat) (st : TS) (y : MC) (w : World) (h : Mn w B p st y) : Calls Try.prog 18 #[.pointer (some ⟨p, 0, none⟩)] w (MTurnEnd B p y st.close st.cErr w) := by
  obtain ⟨RA, rc, rs, SA, sq, sts⟩ := y
  have HT := Lib.hid h
  have x3 : w.cell? ⟨p, 3, none⟩ = some (.bool st.open_) := (h.blk.at_ 3).trans rfl
  have f3 := h.blk.free 3
  have hp := h.blk.lt
  cases hop : st.open_ with
  | false =>
    have HE : Hid (st.cErr = 8) := Lib.hid (by unfold TS.cErr; rw [if_pos hop])
    have HS : Hid (st.close = st) := Lib.hid (by unfold TS.close; rw [HE.out, if_neg (by decide)])
    rw [hop] at x3
    clear h hop
    go_enter Try.func18, Try.ntmps18
    go_wp2
    go_ret
    exact MTurnEnd.bad HT.out HS.out HE.out
  | true =>
    rw [hop] at x3
    obtain ⟨hl1, hl2, hl3⟩ := last_get h.ok hop
    obtain ⟨K, hK⟩ : ∃ K, st.rounds.length = K + 1 := ⟨st.rounds.length - 1, by omega⟩
    have hk : st.rounds.length - 1 = K := by omega
    rw [hk] at hl1 hl2
    obtain ⟨t, ht⟩ : ∃ t, sts[K]? = some t := ⟨_, List.getElem?_eq_getElem (by have := h.ss_len; simp only at this; omega)⟩
    obtain ⟨g2, hg2, _, hg2lt, hc2, _⟩ := h.scs.cell (j := K) (u := t.v) (by simp only [svs, List.getElem?_map]; rw [ht]; rfl)
    have hi := h.isc K t st.lastS ht hl2
    have x1 : w.cell? ⟨p, 1, none⟩ = some (.slice RA st.rounds.length rc) := (h.blk.at_ 1).trans rfl
    have x2 : w.cell? ⟨p, 2, none⟩ = some (.slice SA st.rounds.length sq) := (h.blk.at_ 2).trans rfl
    have hcnt := h.ok.cnt
    rw [hK] at x1 x2 hcnt
    obtain ⟨tA, tn, tc⟩ := t
    simp only [Sl.v] at hc2
    dsimp only at hg2
    subst hg2
    have HI := Lib.hid hi
    have hsl := h.ok.sco K _ _ hl1 hl2
    have hrl := round_len (h.ok.rnd _ (List.mem_of_getElem? hl1))
    have hn := h.ok.n0
    have htn0 : st.lastS.length = tn := ilen hi.reads
    have HTN := Lib.hid htn0
    have htn : tn ≤ 100000 := by have := hsl.1; omega
    have hkw : IntKind.i64.wrap ((K : Int) + 1 - 1) = K := by rw [IntWalk.i64_in _ (by omega)]; omega
    have hkk : (K : Int) < (K : Int) + 1 := by omega
    have hk0 : (0 : Int) ≤ K := by omega
    have HCE : Hid (st.cErr = if (-1 : Int) ∈ st.lastS then 10 else 0) := Lib.hid (by unfold TS.cErr; rw [if_neg (by rw [hop]; decide)])
    clear h hi hsl hl1 hl2 ht hop hk hK htn0
    go_enter Try.func18, Try.ntmps18
    go_wp2
    go_loop [4] (fun i => ∃ j : Nat, j ≤ tn ∧ i = .int .i64 j ∧ Hid (∀ q, q < j → ith st.lastS q ≠ -1)) (fun i => tn - (intOf i).toNat)
    case atStart => exact ⟨0, Nat.zero_le _, rfl, Lib.hid (fun q h => absurd h (by omega))⟩
    case round =>
      obtain ⟨j, hj, rfl, HE0⟩ := hrel
      by_cases hlt : j < tn
      · have hlt' : (j : Int) < tn := by omega
        obtain ⟨ad, rfl, -, c0⟩ := int_at HI.out.reads hlt
        have HG : Hid (st.lastS[j]? = some (ith st.lastS j)) := Lib.hid (ith_get (by rw [HTN.out]; exact hlt))
        have HNX : Hid (ith st.lastS j ≠ -1 → ∀ q, q < j + 1 → ith st.lastS q ≠ -1) := Lib.hid (fun h q hq => by
          rcases Nat.lt_or_ge q j with h1 | h1
          · exact HE0.out q h1
          · obtain rfl : q = j := by omega
            exact h)
        generalize ith st.lastS j = z at *
        by_cases hz : z = -1
        · subst hz
          have HE : Hid (st.cErr = 10) := Lib.hid (by rw [HCE.out, if_pos (List.mem_of_getElem? HG.out)])
          have HS : Hid (st.close = st) := Lib.hid (by unfold TS.close; rw [HE.out, if_neg (by decide)])
          go_wp2
          go_ret
          exact MTurnEnd.bad HT.out HS.out HE.out
        · have hz' : (z == -1) = false := by rw [beq_eq_false_iff_ne]; exact hz
          have HZ := Lib.hid hz
          clear hz
          go_wp2
          go_round
          case rel => exact ⟨j + 1, hlt, by go_num, Lib.hid (HNX.out HZ.out)⟩
          case measure => simp [intOf]; omega
      · obtain rfl : j = tn := by omega
        have HE : Hid (st.cErr = 0) := Lib.hid (by
          rw [HCE.out, if_neg]
          intro hm
          obtain ⟨q, hq, he⟩ := List.getElem_of_mem hm
          have h1 := ith_get hq
          rw [List.getElem?_eq_getElem hq, he] at h1
          injection h1 with h1
          exact HE0.out q (by rw [HTN.out] at hq; exact hq) h1.symm)
        have HS : Hid (st.close = ⟨st.n, st.rounds, st.scores, false⟩) := Lib.hid (by unfold TS.close; rw [HE.out, if_pos rfl])
        go_wp2
        go_ret
        refine ⟨_, by rw [HE.out]; rfl, ?_, (OnlyF.refl _).put (p := ⟨p, 3, none⟩) (.inl (.inl rfl)) _, fun i hi => .inl hi⟩
        rw [HS.out]
        have h := HT.out
        exact ⟨h.blk.put 3 _, h.base, h.rds.put (h.rds.apart_blk h.blk (by decide)), h.scs.put (h.scs.apart_blk h.blk (by decide)), fun k s l h1 h2 => (h.ird k s l h1 h2).put ((h.ird k s l h1 h2).apart_blk h.blk (by decide)), fun k s l h1 h2 => (h.isc k s l h1 h2).put ((h.isc k s l h1 h2).apart_blk h.blk (by decide)), ⟨h.ok.n0, h.ok.len, h.ok.cnt, h.ok.rnd, h.ok.sco, fun h => by cases h⟩⟩
end Go.Proofs.Ytngcmihaheiigaa
