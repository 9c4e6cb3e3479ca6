/-
  The points of the players.
-/
import Derived.Test.YtngcmihaheiigaaNew
set_option linter.unusedSimpArgs false
set_option linter.unusedVariables false
namespace Go.Proofs.Ytngcmihaheiigaa
open Go.RowKit

/-- One duel. -/
def ptD (acc : List Int) (d : D) (s : Int) : List Int :=
  if s = -1 then acc else if d.b < 0 then acc.set d.a.toNat (ith acc d.a.toNat + s) else (acc.set d.a.toNat (ith acc d.a.toNat + s)).set d.b.toNat (ith acc d.b.toNat + (2 - s))
def ptR (acc : List Int) (l : List D) (ss : List Int) : List Int := (l.zip ss).foldl (fun a p => ptD a p.1 p.2) acc
def ptRj (acc : List Int) (l : List D) (ss : List Int) (j : Nat) : List Int := ((l.zip ss).take j).foldl (fun a p => ptD a p.1 p.2) acc
def ptsK (n : Nat) (rs : List (List D)) (sss : List (List Int)) (k : Nat) : List Int := ((rs.zip sss).take k).foldl (fun a p => ptR a p.1 p.2) (List.replicate n 0)
def ptsS (n : Nat) (rs : List (List D)) (sss : List (List Int)) : List Int := (rs.zip sss).foldl (fun a p => ptR a p.1 p.2) (List.replicate n 0)
theorem foldl_take_succ {α β : Type} (f : α → β → α) (a : α) (l : List β) (k : Nat) (x : β) (h : l[k]? = some x) : (l.take (k + 1)).foldl f a = f ((l.take k).foldl f a) x := by
  obtain ⟨hk, rfl⟩ := List.getElem?_eq_some_iff.1 h
  rw [List.take_succ_eq_append_getElem hk, List.foldl_append]
  rfl
theorem zip_get {α β : Type} {l : List α} {m : List β} {k : Nat} {x : α} {y : β} (h : l[k]? = some x) (h' : m[k]? = some y) : (l.zip m)[k]? = some (x, y) := by
  rw [List.getElem?_zip_eq_some]
  exact ⟨h, h'⟩
theorem ptRj_succ {acc : List Int} {l : List D} {ss : List Int} {j : Nat} {d : D} {s : Int} (h : l[j]? = some d) (h' : ss[j]? = some s) : ptRj acc l ss (j + 1) = ptD (ptRj acc l ss j) d s := foldl_take_succ _ _ _ _ _ (zip_get h h')
theorem ptRj_all {acc : List Int} {l : List D} {ss : List Int} {j : Nat} (hj : l.length ≤ j) : ptRj acc l ss j = ptR acc l ss := by
  unfold ptRj ptR
  rw [List.take_of_length_le (by rw [List.length_zip]; omega)]
theorem ptsK_succ {n : Nat} {rs : List (List D)} {sss : List (List Int)} {k : Nat} {l : List D} {s : List Int} (h : rs[k]? = some l) (h' : sss[k]? = some s) : ptsK n rs sss (k + 1) = ptR (ptsK n rs sss k) l s := foldl_take_succ _ _ _ _ _ (zip_get h h')
theorem ptsK_all {n : Nat} {rs : List (List D)} {sss : List (List Int)} {k : Nat} (hk : rs.length ≤ k) : ptsK n rs sss k = ptsS n rs sss := by
  unfold ptsK ptsS
  rw [List.take_of_length_le (by rw [List.length_zip]; omega)]
/-- Points within bounds. -/
def PtB (n : Nat) (b : Int) (acc : List Int) : Prop := acc.length = n ∧ ∀ i, i < n → 0 ≤ ith acc i ∧ ith acc i ≤ b
theorem ith_set {acc : List Int} {a i : Nat} {v : Int} (ha : a < acc.length) : ith (acc.set a v) i = if i = a then v else ith acc i := by
  unfold ith
  rw [List.getD_eq_getElem?_getD, List.getElem?_set, List.getD_eq_getElem?_getD]
  by_cases h : a = i
  · subst h; simp [ha]
  · rw [if_neg h, if_neg (fun e => h e.symm)]
theorem PtB.put {n : Nat} {b : Int} {acc : List Int} (h : PtB n b acc) {a : Nat} {v : Int} {b' : Int} (ha : a < n) (hv : 0 ≤ v ∧ v ≤ b') (hb : b ≤ b') : PtB n b' (acc.set a v) := by
  refine ⟨by rw [List.length_set]; exact h.1, fun i hi => ?_⟩
  rw [ith_set (by rw [h.1]; exact ha)]
  have := h.2 i hi
  split <;> omega
theorem PtB.more {n : Nat} {b b' : Int} {acc : List Int} (h : PtB n b acc) (hb : b ≤ b') : PtB n b' acc := ⟨h.1, fun i hi => by have := h.2 i hi; omega⟩
theorem PtB.zero (n : Nat) : PtB n 0 (List.replicate n 0) := by
  refine ⟨by simp, fun i hi => ?_⟩
  simp [ith, List.getD, List.getElem?_replicate, hi]
theorem XOwns.store {w : World} {base : Nat} {e : TypeId} {g n c : Nat} {xs : List Int} (h : XOwns w base e 1 (some ⟨g, 0, none⟩) n c (ics xs)) (j : Nat) (u : Int) : XOwns (w.setCell ⟨g, j, none⟩ (.int .i64 u)) base e 1 (some ⟨g, 0, none⟩) n c (ics (xs.set j u)) := by
  refine ⟨?_, h.2⟩
  rw [show ics (xs.set j u) = (ics xs).set j (.int .i64 u) by simp [ics]]
  exact (h.1.stored j (.int .i64 u)).1
theorem XOwns.icell {w : World} {base : Nat} {e : TypeId} {g n c : Nat} {xs : List Int} (h : XOwns w base e 1 (some ⟨g, 0, none⟩) n c (ics xs)) {j : Nat} (hj : j < n) : w.cell? ⟨g, j, none⟩ = some (.int .i64 (ith xs j)) ∧ w.frozen? ⟨g, j, none⟩ = false := by
  have hl := ilen h.reads
  obtain ⟨g', hg, _, _, hc, hf⟩ := h.cell (j := j) (u := .int .i64 (ith xs j)) (by rw [ics, List.getElem?_map, ith_get (by omega)]; rfl)
  injection hg with hg
  injection hg with hg
  subst hg
  exact ⟨hc, hf⟩
theorem XOwns.cellAt {w : World} {base : Nat} {e : TypeId} {size g n c j : Nat} {xs : List Value} {u : Value} (h : XOwns w base e size (some ⟨g, 0, none⟩) n c xs) (hj : xs[j]? = some u) : w.cell? ⟨g, j, none⟩ = some u := by
  obtain ⟨g', hg, _, _, hc, _⟩ := h.cell hj
  injection hg with hg
  injection hg with hg
  subst hg
  exact hc
theorem round_len {n : Nat} {l : List D} (h : RoundOk n l) : l.length ≤ n := by
  have h1 := h.2.length_eq
  have h3 : ∀ m : List D, m.length ≤ (m.flatMap D.pl).length := by
    intro m
    induction m with
    | nil => simp
    | cons d m ih =>
      simp only [List.flatMap_cons, List.length_append, List.length_cons]
      have : 1 ≤ d.pl.length := by unfold D.pl; split <;> simp
      omega
  have h4 : (rangeI n).length = n := by simp [rangeI]
  have := h3 l
  unfold plist at h1
  omega

set_option maxRecDepth 100000 in
set_option maxHeartbeats 1600000 in
theorem points_any (B p : Nat) (st : TS) (x : TC) (w : World) (h : Tn w B p st x) : Calls Try.prog 13 #[.pointer (some ⟨p, 0, none⟩)] w fun e w' => ∃ g, e = .returned (.slice (some ⟨g, 0, none⟩) st.n st.n) ∧ XOwns w' w.heap.size 3 1 (some ⟨g, 0, none⟩) st.n st.n (ics (ptsS st.n st.rounds st.scores)) ∧ Below w.heap.size w w' := by
  obtain ⟨mA, mc, ms, RA, rc, rs, SA, sq, sts⟩ := x
  have HT : Hid (∀ W, Below w.heap.size w W → Tn W B p st ⟨mA, mc, ms, RA, rc, rs, SA, sq, sts⟩) := Lib.hid fun W hb => h.below hb
  have HT0 := Lib.hid h
  have x0 : w.cell? ⟨p, 0, none⟩ = some (.slice mA st.n mc) := (h.blk.at_ 0).trans rfl
  have hn := h.ok.n0
  have hcnt := h.ok.cnt
  have HRL : Hid (rs.length = st.rounds.length) := Lib.hid h.rs_len
  have HSL : Hid (sts.length = st.rounds.length) := Lib.hid h.ss_len
  have HOK := Lib.hid h.ok
  have hplt := h.blk.lt
  clear h
  obtain ⟨hn1, hn2⟩ := hn
  go_enter Try.func13, Try.ntmps13
  go_wp2_with (first
    | (go_at_call 25; refine (none_f B p st _ _ HT0.out).mono ?_; rintro e w1 ⟨rfl, rfl⟩)
    | (at_make; refine make_x _ rfl (.tmp 15) (.tmp 15) 37 rfl w.heap.size 3 (.int .i64 0) 8 Try.info3 Try.underlying37 rfl .i64 .i64 _ _ st.n rfl rfl rfl rfl ?_ ?_ ?_ ?_; omega; omega; exact Nat.le_refl _; intro w1 ho1 hb1; have z1 : w1.cell? ⟨p, 1, none⟩ = some (.slice RA st.rounds.length rc) := ((HT.out _ hb1).blk.at_ 1).trans rfl)
    | fail)
  have HO1 : Hid (XOwns w1 w.heap.size 3 1 (some ⟨w.heap.size, 0, none⟩) st.n st.n (ics (ptsK st.n st.rounds st.scores 0))) := Lib.hid (by
    rw [show ics (ptsK st.n st.rounds st.scores 0) = List.replicate st.n (.int .i64 0) by simp [ptsK, ics]]
    exact ho1)
  have HP1 : Hid (PtB st.n (80 * (0 : Nat)) (ptsK st.n st.rounds st.scores 0)) := Lib.hid (PtB.zero st.n)
  clear ho1 x0 z1
  go_loopw [22] (fun i W => ∃ k : Nat, k ≤ st.rounds.length ∧ i = .int .i64 k ∧ XOwns W w.heap.size 3 1 (some ⟨w.heap.size, 0, none⟩) st.n st.n (ics (ptsK st.n st.rounds st.scores k)) ∧ Hid (PtB st.n (80 * k) (ptsK st.n st.rounds st.scores k)) ∧ Below w.heap.size w W) (fun i _ => st.rounds.length - (intOf i).toNat)
  case atStart => exact ⟨0, Nat.zero_le _, rfl, HO1.out, HP1, hb1⟩
  case round =>
    obtain ⟨k, hk, rfl, hO, HP, hB⟩ := hrel
    generalize wr = wz at *
    have HO := Lib.hid hO
    have hz := hB.size
    clear hO
    by_cases hlt : k < st.rounds.length
    · have hlt' : (k : Int) < st.rounds.length := by omega
      obtain ⟨l, hl⟩ : ∃ l, st.rounds[k]? = some l := ⟨_, List.getElem?_eq_getElem hlt⟩
      obtain ⟨ss, hss⟩ : ∃ ss, st.scores[k]? = some ss := ⟨_, List.getElem?_eq_getElem (by rw [HOK.out.len]; exact hlt)⟩
      obtain ⟨s, hs⟩ : ∃ s, rs[k]? = some s := ⟨_, List.getElem?_eq_getElem (by rw [HRL.out]; exact hlt)⟩
      obtain ⟨t, ht⟩ : ∃ s, sts[k]? = some s := ⟨_, List.getElem?_eq_getElem (by rw [HSL.out]; exact hlt)⟩
      obtain ⟨g, hg, _, hglt, hc, _⟩ := (HT.out _ hB).rds.cell (j := k) (u := s.v) (by simp [svs, hs])
      obtain ⟨g2, hg2, _, hg2lt, hc2, _⟩ := (HT.out _ hB).scs.cell (j := k) (u := t.v) (by simp [svs, ht])
      have HI : Hid (∀ W, Below w.heap.size w W → XOwns W B 33 2 s.A s.n s.c (dcells l)) := Lib.hid fun W hb => (HT.out _ hb).ird k s l hs hl
      have HJ : Hid (∀ W, Below w.heap.size w W → XOwns W B 34 1 t.A t.n t.c (ics ss)) := Lib.hid fun W hb => (HT.out _ hb).isc k t ss ht hss
      have hsn : s.n = l.length := by have := (HI.out _ hB).len; rw [dcells_len] at this; omega
      have hro := HOK.out.rnd l (List.mem_of_getElem? hl)
      have hrl := round_len hro
      obtain ⟨hsl, hsb⟩ := HOK.out.sco k l ss hl hss
      have htn : t.n = l.length := by have := ilen (HJ.out _ hB).reads; omega
      have HLL := Lib.hid hl
      have HSS := Lib.hid hss
      have HRO := Lib.hid hro
      have HSB := Lib.hid hsb
      have HSLN := Lib.hid hsl
      have HTT := Lib.hid ht
      have HPK := Lib.hid (ptsK_succ (n := st.n) hl hss)
      obtain ⟨sA, sn, sc⟩ := s
      obtain ⟨tA, tn, tc⟩ := t
      simp only [Sl.v] at hc hc2 hsn htn HI HJ HTT
      subst hsn htn
      dsimp only at hg hg2
      subst hg hg2
      clear hl hss hs ht hro hsb hsl
      go_wp2
      go_loopw [29] (fun i W => ∃ j : Nat, j ≤ l.length ∧ i = .int .i64 j ∧ XOwns W w.heap.size 3 1 (some ⟨w.heap.size, 0, none⟩) st.n st.n (ics (ptRj (ptsK st.n st.rounds st.scores k) l ss j)) ∧ Hid (PtB st.n (80 * k + 4 * j) (ptRj (ptsK st.n st.rounds st.scores k) l ss j)) ∧ Below w.heap.size w W) (fun i _ => l.length - (intOf i).toNat)
      case atStart => exact ⟨0, Nat.zero_le _, rfl, HO.out, Lib.hid (by have := HP.out; simpa [ptRj] using this), hB⟩
      case round =>
        obtain ⟨j, hj, rfl, hO2, HP2, hB2⟩ := hrel
        generalize hacc : ptRj (ptsK st.n st.rounds st.scores k) l ss j = acc at *
        have HACC := Lib.hid hacc
        have HO2 := Lib.hid hO2
        have hz2 := hB2.size
        have hac := HP2.out.1
        clear hO2 HO hacc hc hc2
        by_cases hlj : j < l.length
        · have hlj' : (j : Int) < l.length := by omega
          obtain ⟨ad, hsA, had, c0, c1⟩ := duel_at (HI.out _ hB2).reads hlj
          subst hsA
          obtain ⟨td, htA, _, htd, e0, _⟩ := (HJ.out _ hB2).cell (j := j) (u := .int .i64 (ith ss j)) (by rw [ics, List.getElem?_map, ith_get (by rw [HSLN.out]; exact hlj)]; rfl)
          subst htA
          have HDG := Lib.hid (dth_get hlj)
          have HSG := Lib.hid (ith_get (show j < ss.length by rw [HSLN.out]; exact hlj))
          have HSUC := Lib.hid (ptRj_succ (acc := ptsK st.n st.rounds st.scores k) HDG.out HSG.out)
          have hd := HRO.out.1 _ (List.mem_of_getElem? HDG.out)
          have hsb := HSB.out _ (List.mem_of_getElem? HSG.out)
          have x2 : wr.cell? ⟨p, 2, none⟩ = some (.slice (some ⟨g2, 0, none⟩) st.rounds.length sq) := ((HT.out _ hB2).blk.at_ 2).trans rfl
          have c2 : wr.cell? ⟨g2, k, none⟩ = some (.slice (some ⟨td, 0, none⟩) l.length tc) := XOwns.cellAt (HT.out _ hB2).scs (j := k) (u := Sl.v ⟨some ⟨td, 0, none⟩, l.length, tc⟩) (by simp only [svs, List.getElem?_map]; rw [HTT.out]; rfl)
          have hpw : p < wr.heap.size := by omega
          have hg2w : g2 < wr.heap.size := (HT.out _ hB2).scs.lt g2 rfl |>.2
          have hgow : w.heap.size < wr.heap.size := HO2.out.lt w.heap.size rfl |>.2
          generalize hdd : dth l j = d at *
          generalize hse : ith ss j = s at *
          obtain ⟨da, db⟩ := d
          have hda := hd.1
          have hda2 := hd.2.1
          have hdb := hd.2.2
          simp only at hda hda2 hdb c0 c1
          obtain ⟨a, rfl⟩ : ∃ a : Nat, da = a := ⟨da.toNat, by omega⟩
          have han : a < st.n := by omega
          have han' : (a : Int) < st.n := by omega
          obtain ⟨o0, f0⟩ := HO2.out.icell han
          have hb0 := HP2.out.2 a han
          clear hdd hse hd
          by_cases hs1 : s = -1
          · have HQ : Hid (ptRj (ptsK st.n st.rounds st.scores k) l ss (j + 1) = acc) := Lib.hid (by rw [HSUC.out, HACC.out]; unfold ptD; rw [if_pos hs1])
            subst hs1
            go_wp2
            go_roundw
            case rel => exact ⟨j + 1, by omega, by go_num, by rw [HQ.out]; exact HO2.out.below ((Below.refl _ _).alloc (Nat.le_refl _) _), Lib.hid (by rw [HQ.out]; exact HP2.out.more (by omega)), by (focus (repeat' (first | (with_reducible exact Below.refl _ _) | (with_reducible assumption) | (with_reducible refine Below.alloc ?_ ?_ _) | (with_reducible refine below_drewN ?_ _) | (with_reducible refine Below.drew ?_) | (with_reducible refine Below.setCell ?_ ?_ _) | omega | (simp; done) | (simp; omega))))⟩
            case measure => simp [intOf]; omega
          · have hs1' : (s == -1) = false := by rw [beq_eq_false_iff_ne]; exact hs1
            have hss : 0 ≤ s ∧ s ≤ 2 := by omega
            have hw1 : IntKind.i64.wrap (ith acc a + s) = ith acc a + s := IntWalk.i64_in _ (by omega)
            have HS1 := Lib.hid hs1
            clear hs1
            by_cases hbn : db = -1
            · have HQ : Hid (ptRj (ptsK st.n st.rounds st.scores k) l ss (j + 1) = acc.set a (ith acc a + s)) := Lib.hid (by rw [HSUC.out, HACC.out]; unfold ptD; rw [if_neg HS1.out, if_pos (by show db < 0; omega)]; rfl)
              subst hbn
              go_wp2
              go_roundw
              case rel => exact ⟨j + 1, by omega, by go_num, by rw [HQ.out]; exact (HO2.out.store a _).below ((Below.refl _ _).alloc (Nat.le_refl _) _), Lib.hid (by rw [HQ.out]; exact (HP2.out.more (by omega)).put han (by omega) (Int.le_refl _)), by (focus (repeat' (first | (with_reducible exact Below.refl _ _) | (with_reducible assumption) | (with_reducible refine Below.alloc ?_ ?_ _) | (with_reducible refine below_drewN ?_ _) | (with_reducible refine Below.drew ?_) | (with_reducible refine Below.setCell ?_ ?_ _) | omega | (simp; done) | (simp; omega))))⟩
              case measure => simp [intOf]; omega
            · obtain ⟨b, rfl⟩ : ∃ b : Nat, db = b := ⟨db.toNat, by omega⟩
              have hbn2 : b < st.n := by omega
              have hbn' : (b : Int) < st.n := by omega
              have hbp : (0 : Int) ≤ b := by omega
              have habn : a ≠ b := by omega
              have HQ : Hid (ptRj (ptsK st.n st.rounds st.scores k) l ss (j + 1) = (acc.set a (ith acc a + s)).set b (ith acc b + (2 - s))) := Lib.hid (by rw [HSUC.out, HACC.out]; unfold ptD; rw [if_neg HS1.out, if_neg (by simp)]; rfl)
              obtain ⟨o1, f1⟩ := HO2.out.icell hbn2
              have hb1 := HP2.out.2 b hbn2
              have hw2 : IntKind.i64.wrap (2 - s) = 2 - s := IntWalk.i64_in _ (by omega)
              have hw3 : IntKind.i64.wrap (ith acc b + (2 - s)) = ith acc b + (2 - s) := IntWalk.i64_in _ (by omega)
              clear hbn
              go_wp2
              go_roundw
              case rel => exact ⟨j + 1, by omega, by go_num, by rw [HQ.out]; exact ((HO2.out.store a _).store b _).below ((Below.refl _ _).alloc (Nat.le_refl _) _), Lib.hid (by rw [HQ.out]; exact ((HP2.out.more (show (80 * (k : Int) + 4 * j) ≤ 80 * k + 4 * ((j + 1 : Nat) : Int) by omega)).put han (by omega) (Int.le_refl _)).put hbn2 (by omega) (Int.le_refl _)), by (focus (repeat' (first | (with_reducible exact Below.refl _ _) | (with_reducible assumption) | (with_reducible refine Below.alloc ?_ ?_ _) | (with_reducible refine below_drewN ?_ _) | (with_reducible refine Below.drew ?_) | (with_reducible refine Below.setCell ?_ ?_ _) | omega | (simp; done) | (simp; omega))))⟩
              case measure => simp [intOf]; omega
        · obtain rfl : j = l.length := by omega
          have HALL := Lib.hid (ptRj_all (acc := ptsK st.n st.rounds st.scores k) (l := l) (ss := ss) (Nat.le_refl _))
          go_wp2
          go_roundw
          case rel => exact ⟨k + 1, by omega, by go_num, by rw [HPK.out, ← HALL.out, HACC.out]; exact HO2.out, Lib.hid (by rw [HPK.out, ← HALL.out, HACC.out]; exact HP2.out.more (by omega)), hB2⟩
          case measure => simp [intOf]; omega
    · obtain rfl : k = st.rounds.length := by omega
      have HPA := Lib.hid (ptsK_all (n := st.n) (rs := st.rounds) (sss := st.scores) (Nat.le_refl _))
      go_wp2
      go_ret
      exact ⟨w.heap.size, rfl, by rw [← HPA.out]; exact HO.out, hB⟩
end Go.Proofs.Ytngcmihaheiigaa
