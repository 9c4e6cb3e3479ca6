/-
  LeagueFulls: as many games as there may be.
-/
import Derived.Test.YtekbjlihpmjlfaaKnown
set_option linter.unusedSimpArgs false
set_option linter.unusedVariables false
namespace Go.Proofs.Ytekbjlihpmjlfaa
open Go.RowKit

def gF (i : Nat) : Gm := ⟨(i % 2 : Nat), 1 - (i % 2 : Nat), 1⟩
def fulF (n k : Nat) : List Gm := (List.range n).map (fun i => if i < k then gF i else g0)
theorem Try.info30 : (Try.prog.info? 30).map (fun i => (i.zero, i.size, i.bytes)) = some (some (.agg #[.int .i64 0, .int .i64 0, .int .i64 0]), 3, 24) := by kernel_rfl

def fF (k : Nat) : List Gm := (List.range k).map gF
theorem fF_snoc (k : Nat) : fF (k + 1) = fF k ++ [gF k] := by unfold fF; rw [List.range_succ]; simp
theorem fF_len (k : Nat) : (fF k).length = k := by simp [fF]
theorem fulF_full (n : Nat) : fulF n n = fF n := by
  unfold fulF fF
  refine List.map_congr_left fun i hi => ?_
  rw [if_pos (List.mem_range.1 hi)]
theorem gF_sc (k : Nat) : scS (gF k) 0 = (if k % 2 = 0 then 3 else 0) ∧ scS (gF k) 1 = (if k % 2 = 0 then 0 else 3) ∧ Inv (gF k) 0 ∧ Inv (gF k) 1 := by
  rcases (show k % 2 = 0 ∨ k % 2 = 1 by omega) with h | h <;> simp [gF, h, scS, Inv]
theorem fF_sum (k : Nat) : sumS (fF k) 0 = ((3 * ((k + 1) / 2) : Nat) : Int) ∧ sumS (fF k) 1 = ((3 * (k / 2) : Nat) : Int) ∧ cntS 3 (fF k) 0 = (((k + 1) / 2 : Nat) : Int) ∧ cntS 3 (fF k) 1 = ((k / 2 : Nat) : Int) ∧ crT (fF k) 0 1 = ((3 * ((k + 1) / 2) : Nat) : Int) := by
  induction k with
  | zero => simp [fF, sumS, cntS, crT]
  | succ k ih =>
    obtain ⟨i1, i2, i3, i4, i5⟩ := ih
    obtain ⟨s0, s1, v0, v1⟩ := gF_sc k
    rw [fF_snoc, sumS_snoc, sumS_snoc, cntS_snoc, cntS_snoc, crT_snoc, i1, i2, i3, i4, i5]
    unfold crS
    rw [s0, s1]
    simp only [v0, v1, true_and, and_true]
    rcases (show k % 2 = 0 ∨ k % 2 = 1 by omega) with h | h <;> simp [h] <;> omega
theorem fF_am (A : List Gm) (h : sumS A 0 = sumS A 1) (p : Int) (k : Nat) : amT A (fF k) p = sumS (fF k) p := by
  induction k with
  | zero => simp [fF, sumS, amT]
  | succ k ih =>
    rw [fF_snoc, sumS_snoc, amT_snoc, ih, if_pos]
    rcases (show k % 2 = 0 ∨ k % 2 = 1 by omega) with e | e <;> simp [gF, e, h]
theorem fF_tab (n : Nat) : (rth (tabS 2 (fF n)) 0).wi = (((n + 1) / 2 : Nat) : Int) := by
  obtain ⟨i1, i2, i3, i4, _⟩ := fF_sum n
  have ha : Ahead (rowS (fF n) 0) (rowS (fF n) 1) := by
    unfold Ahead rowS rowA
    simp only
    rw [i1, i2, i3, i4]
    rcases (show n % 2 = 0 ∨ n % 2 = 1 by omega) with e | e
    · have hs : sumS (fF n) 0 = sumS (fF n) 1 := by rw [i1, i2]; omega
      rw [fF_am _ hs, fF_am _ hs, i1, i2]
      omega
    · omega
  have e : tabS 2 (fF n) = [rowS (fF n) 0, rowS (fF n) 1] := by
    show insR (rowS (fF n) 1) (insR (rowS (fF n) 0) []) = _
    simp only [insR]
    rw [if_pos ha]
  rw [e]
  exact i3
theorem fF_ok (n : Nat) (h : n ≤ 2000) : errS 2 (fF n) = 0 := by
  unfold errS
  rw [fF_len, if_neg (by omega), if_neg (by decide), if_pos]
  rw [List.all_eq_true]
  intro g hg
  obtain ⟨k, _, rfl⟩ := List.mem_map.1 hg
  have : k % 2 = 0 ∨ k % 2 = 1 := by omega
  refine decide_eq_true ?_
  unfold GOk gF
  simp only
  omega
theorem fF_long (n : Nat) (h : 2000 < n) : errS 2 (fF n) = 5 := by unfold errS; rw [fF_len, if_pos h]
theorem gcells_at {l : List Gm} {i j : Nat} (hi : i < l.length) (hj : j < 3) : (gcells l)[i * 3 + j]? = (gth l i).cells[j]? :=
  haveI : Inhabited Gm := ⟨g0⟩
  flatMap_at (enc := Gm.cells) (fun _ => rfl) (gth_get hi) hj
theorem game_free {w : World} {B g n c : Nat} {l : List Gm} (h : XOwns w B 30 3 (some ⟨g, 0, none⟩) n c (gcells l)) {k : Nat} (hk : k < n) :
    (w.cell? ⟨g, k * 3, none⟩ = some (.int .i64 (gth l k).a) ∧ w.frozen? ⟨g, k * 3, none⟩ = false) ∧ (w.cell? ⟨g, k * 3 + 1, none⟩ = some (.int .i64 (gth l k).b) ∧ w.frozen? ⟨g, k * 3 + 1, none⟩ = false) ∧
    (w.cell? ⟨g, k * 3 + 2, none⟩ = some (.int .i64 (gth l k).o) ∧ w.frozen? ⟨g, k * 3 + 2, none⟩ = false) ∧ g < w.heap.size := by
  have hl := glen h.reads
  have go : ∀ j u, j < 3 → (gth l k).cells[j]? = some u → w.cell? ⟨g, k * 3 + j, none⟩ = some u ∧ w.frozen? ⟨g, k * 3 + j, none⟩ = false ∧ g < w.heap.size := fun j u hj hu => by
    obtain ⟨g', hg, _, h2, hc, hf⟩ := h.cell (j := k * 3 + j) (u := u) (by rw [gcells_at (by omega) hj]; exact hu)
    injection hg with hg
    injection hg with hg
    subst hg
    exact ⟨hc, hf, h2⟩
  obtain ⟨a1, a2, a3⟩ := go 0 _ (by decide) rfl
  obtain ⟨b1, b2, _⟩ := go 1 _ (by decide) rfl
  obtain ⟨d1, d2, _⟩ := go 2 _ (by decide) rfl
  exact ⟨⟨a1, a2⟩, ⟨b1, b2⟩, ⟨d1, d2⟩, a3⟩

theorem gth_set {acc : List Gm} {a i : Nat} {v : Gm} (ha : a < acc.length) : gth (acc.set a v) i = if i = a then v else gth acc i := by
  unfold gth
  rw [List.getD_eq_getElem?_getD, List.getElem?_set, List.getD_eq_getElem?_getD]
  by_cases h : a = i
  · subst h; simp [ha]
  · rw [if_neg h, if_neg (fun e => h e.symm)]
theorem gcells_set {l : List Gm} {i : Nat} {g : Gm} (hi : i < l.length) : (((gcells l).set (i * 3) (.int .i64 g.a)).set (i * 3 + 1) (.int .i64 g.b)).set (i * 3 + 2) (.int .i64 g.o) = gcells (l.set i g) := by
  refine List.ext_getElem? fun t => ?_
  have hln : (gcells (l.set i g)).length = l.length * 3 := by rw [gcells_len, List.length_set]
  rcases Nat.lt_or_ge t (l.length * 3) with ht | ht
  · have hq : t / 3 < l.length := by omega
    have e : t / 3 * 3 + t % 3 = t := by omega
    have h1 := gcells_at (l := l) hq (show t % 3 < 3 by omega)
    have h2 := gcells_at (l := l.set i g) (by rw [List.length_set]; exact hq) (show t % 3 < 3 by omega)
    rw [e] at h1 h2
    rw [h2, gth_set hi]
    by_cases hq2 : t / 3 = i
    · rw [if_pos hq2]
      rcases (show t = i * 3 ∨ t = i * 3 + 1 ∨ t = i * 3 + 2 by omega) with h | h | h
      · rw [h, List.getElem?_set_ne (by omega), List.getElem?_set_ne (by omega), List.getElem?_set_self (by rw [gcells_len]; omega), show i * 3 % 3 = 0 by omega]; rfl
      · rw [h, List.getElem?_set_ne (by omega), List.getElem?_set_self (by rw [List.length_set, gcells_len]; omega), show (i * 3 + 1) % 3 = 1 by omega]; rfl
      · rw [h, List.getElem?_set_self (by rw [List.length_set, List.length_set, gcells_len]; omega), show (i * 3 + 2) % 3 = 2 by omega]; rfl
    · rw [if_neg hq2, List.getElem?_set_ne (by omega), List.getElem?_set_ne (by omega), List.getElem?_set_ne (by omega), h1]
  · rw [List.getElem?_eq_none (by rw [List.length_set, List.length_set, List.length_set, gcells_len]; exact ht), List.getElem?_eq_none (by rw [hln]; exact ht)]
theorem fulF_len (n k : Nat) : (fulF n k).length = n := by simp [fulF]
theorem fulF_set {n k : Nat} (h : k < n) : (fulF n k).set k (gF k) = fulF n (k + 1) := by
  refine List.ext_getElem? fun i => ?_
  unfold fulF
  rw [List.getElem?_set, List.getElem?_map, List.getElem?_map, List.length_map, List.length_range]
  rcases Nat.lt_or_ge i n with hi | hi
  · rw [List.getElem?_range hi]
    by_cases e : k = i
    · subst e
      simp [h]
    · rw [if_neg e]
      simp only [Option.map_some]
      by_cases h2 : i < k
      · rw [if_pos h2, if_pos (by omega)]
      · rw [if_neg h2, if_neg (by omega)]
  · rw [if_neg (by omega), List.getElem?_eq_none (by simpa using hi)]
    rfl
theorem fulF_zero (n : Nat) : (List.replicate n ((Value.agg #[.int .i64 0, .int .i64 0, .int .i64 0]).cells.toList)).flatten = gcells (fulF n 0) := by
  have e : fulF n 0 = List.replicate n g0 := by
    unfold fulF
    rw [← rep_map]
    exact List.map_congr_left fun i _ => if_neg (Nat.not_lt_zero _)
  rw [e]
  unfold gcells
  rw [List.flatMap_def, List.map_replicate]
  rfl

set_option maxRecDepth 100000 in
set_option maxHeartbeats 1600000 in
theorem fulls_ok (n : Nat) (w : World) (h1 : 1998 ≤ n) (h2 : n ≤ 2002) : Calls Try.prog 6 #[.int .i64 n] w fun e w' => e = .returned (.bool true) ∧ Below w.heap.size w w' := by
  go_enter Try.func6, Try.ntmps6
  go_wp2_with (at_make; refine make_k _ rfl (.tmp 16) (.tmp 16) 22 rfl w.heap.size 30 (.agg #[.int .i64 0, .int .i64 0, .int .i64 0]) 3 24 Try.info30 Try.underlying22 rfl (by decide) .i64 .i64 _ _ n rfl rfl rfl rfl ?_ ?_ ?_ ?_; omega; omega; exact Nat.le_refl _; intro w1 ho1 hb1)
  have HO1 : Hid (XOwns w1 w.heap.size 30 3 (some ⟨w.heap.size, 0, none⟩) n n (gcells (fulF n 0))) := Lib.hid (by (have h := ho1; rwa [fulF_zero] at h))
  clear ho1
  obtain ⟨g, hg⟩ : ∃ g, w.heap.size = g := ⟨_, rfl⟩
  have HG := Lib.hid hg
  have HB1 : Hid (Below g w w1) := Lib.hid (by rw [← hg]; exact hb1)
  rw [hg] at HO1 ⊢
  clear hb1 hg
  go_loopw [4] (fun i W => ∃ k : Nat, k ≤ n ∧ i = .int .i64 k ∧ Hid (XOwns W g 30 3 (some ⟨g, 0, none⟩) n n (gcells (fulF n k))) ∧ Hid (Below g w W)) (fun i _ => n - (intOf i).toNat)
  case atStart => exact ⟨0, Nat.zero_le _, rfl, HO1, HB1⟩
  case round =>
    obtain ⟨k, hk, rfl, HO, HB⟩ := hrel
    clear HO1 HB1
    by_cases hlt : k < n
    · have hlt' : (k : Int) < n := by omega
      have em : (k : Int).tmod 2 = ((k % 2 : Nat) : Int) := by rw [Int.tmod_eq_emod_of_nonneg (by omega)]; omega
      obtain ⟨⟨c0, f0⟩, ⟨c1, f1⟩, ⟨c2, f2⟩, hgl⟩ := game_free HO.out (show k < n by omega)
      have hb2 : ((k % 2 : Nat) : Int) ≤ 1 := by omega
      have hb0 : (0 : Int) ≤ ((k % 2 : Nat) : Int) := by omega
      obtain ⟨r, hr⟩ : ∃ r, ((k % 2 : Nat) : Int) = r := ⟨_, rfl⟩
      rw [hr] at em hb2 hb0
      generalize gth (fulF n k) k = gg at *
      have HR : Hid (gF k = ⟨r, 1 - r, 1⟩) := Lib.hid (by unfold gF; rw [← hr])
      clear hr
      go_wp2
      go_roundw
      case rel =>
        refine ⟨k + 1, hlt, by go_num, Lib.hid ?_, Lib.hid ?_⟩
        · have h := ((HO.out.setX (k * 3) (.int .i64 r)).setX (k * 3 + 1) (.int .i64 (1 - r))).setX (k * 3 + 2) (.int .i64 1)
          have e := gcells_set (l := fulF n k) (i := k) (g := gF k) (by rw [fulF_len]; exact hlt)
          rw [HR.out] at e
          simp only at e
          rw [e, ← HR.out, fulF_set hlt] at h
          exact h
        · exact ((HB.out.setCell (p := ⟨g, k * 3, none⟩) (Nat.le_refl _) _).setCell (p := ⟨g, k * 3 + 1, none⟩) (Nat.le_refl _) _).setCell (p := ⟨g, k * 3 + 2, none⟩) (Nat.le_refl _) _
      case measure => simp [intOf]; omega
    · obtain rfl : k = n := by omega
      have HRD : Hid (Reads wr 3 (some ⟨g, 0, none⟩) k (gcells (fF k))) := Lib.hid (by have h := HO.out.reads; rwa [fulF_full] at h)
      have hB := HB.out
      have hzB : w.heap.size ≤ wr.heap.size := hB.size
      rw [← HG.out] at hB
      by_cases hl : 2000 < k
      · have hl' : (2000 : Int) < k := by omega
        have HE := Lib.hid (fF_long k hl)
        go_wp2_with fail
        refine (table_bad 2 _ _ _ (fF k) _ HRD.out (by rw [HE.out]; decide)).mono ?_
        rw [HE.out]
        rintro e w2 ⟨rfl, hb2⟩
        have hz2 := hb2.size
        go_wp2_with fail
        refine (cross_bad 2 _ _ _ (fF k) _ (HRD.out.below hb2) (by rw [HE.out]; decide)).mono ?_
        rw [HE.out]
        rintro e w3 ⟨rfl, hb3⟩
        have hb23 := below_call hb2 hb3 hz2
        go_wp2_with fail
        refine (forms_bad 2 _ _ _ (fF k) 0 1 5 _ (HRD.out.below hb23) (.inl ⟨by rw [HE.out]; decide, HE.out⟩)).mono ?_
        rintro e w4 ⟨rfl, hb4⟩
        go_wp2_with fail
        refine (known_any _).mono ?_
        rintro e w5 ⟨rfl, hb5⟩
        go_wp2
        go_ret
        have hb24 := below_call hb23 hb4 hb23.size
        exact ⟨rfl, below_call hB (below_call hb24 hb5 hb24.size) hzB⟩
      · have hl' : ¬ (2000 : Int) < k := by omega
        have HE := Lib.hid (fF_ok k (by omega))
        have HW := Lib.hid (fF_tab k)
        have HC := Lib.hid (fF_sum k).2.2.2.2
        go_wp2_with fail
        refine (table_ok 2 _ _ _ (fF k) _ HRD.out HE.out).mono ?_
        rintro e w2 ⟨g2, rfl, ho2, hb2⟩
        have hz2 := hb2.size
        have HO2 := Lib.hid ho2
        clear ho2
        go_wp2_with fail
        refine (cross_ok 2 _ _ _ (fF k) _ (HRD.out.below hb2) HE.out).mono ?_
        rintro e w3 ⟨gO, G, rfl, hc3, hb3⟩
        have hb23 := below_call hb2 hb3 hz2
        have x1 := ((HO2.out.below hb3).rcell (i := 0) (j := 3) (by decide) (by decide) rfl (t := 3) rfl).1
        rw [HW.out] at x1
        have x2 := hc3.ocell (i := 0) (by decide) (by decide)
        have x3 := (hc3.icell (i := 0) (j := 1) (by decide) (by decide)).1
        have x4 := hc3.ofree (i := 0) (by decide)
        rw [rowC_at (by decide), Int.natCast_zero, show ((1 : Nat) : Int) = 1 from rfl, HC.out] at x3
        obtain ⟨q, hq⟩ : ∃ q, (k + 1) / 2 = q := ⟨_, rfl⟩
        rw [hq] at x1 x3
        have hq2 : q ≤ 1100 := by omega
        have eq : ((k : Int) + 1).tdiv 2 = (q : Int) := by rw [Int.tdiv_eq_ediv_of_nonneg (by omega)]; omega
        have e3 : ((3 * q : Nat) : Int) = 3 * (q : Int) := by omega
        rw [e3] at x3
        clear hc3 hq e3 x4
        go_wp2_with fail
        refine (known_any _).mono ?_
        rintro e w5 ⟨rfl, hb5⟩
        go_wp2
        go_ret
        exact ⟨rfl, below_call hB (below_call hb23 hb5 hb23.size) hzB⟩
end Go.Proofs.Ytekbjlihpmjlfaa
