/-
  Cross.
-/
import Derived.Test.YtekbjlihpmjlfaaTab
set_option linter.unusedSimpArgs false
set_option linter.unusedVariables false
namespace Go.Proofs.Ytekbjlihpmjlfaa
open Go.RowKit

/-- The points of a player against another one in a game. -/
def crS (g : Gm) (a b : Int) : Int := if a ≠ b ∧ Inv g a ∧ Inv g b then scS g a else 0
def crT (l : List Gm) (a b : Int) : Int := (l.map fun g => crS g a b).sum
def rowC (n : Nat) (l : List Gm) (a : Int) : List Int := (rangeI n).map (crT l a)
theorem crT_snoc {l : List Gm} {g : Gm} {a b : Int} : crT (l ++ [g]) a b = crT l a b + crS g a b := by unfold crT; simp
theorem crT_bd (l : List Gm) (a b : Int) : 0 ≤ crT l a b ∧ crT l a b ≤ 3 * (l.length : Int) := by
  induction l with
  | nil => simp [crT]
  | cons g l ih =>
    have h := scS_bd g a
    have e : crT (g :: l) a b = crS g a b + crT l a b := by simp [crT]
    rw [e, List.length_cons]
    unfold crS
    split <;> omega
theorem rowC_len (n : Nat) (l : List Gm) (a : Int) : (rowC n l a).length = n := by simp [rowC, rangeI_len]
theorem rowC_at {n b : Nat} {l : List Gm} {a : Int} (h : b < n) : ith (rowC n l a) b = crT l a b := by
  unfold ith rowC
  rw [List.getD_eq_getElem?_getD, List.getElem?_map, rangeI_get h]
  rfl
theorem ith_set {acc : List Int} {a i : Nat} {v : Int} (ha : a < acc.length) : ith (acc.set a v) i = if i = a then v else ith acc i := by
  unfold ith
  rw [List.getD_eq_getElem?_getD, List.getElem?_set, List.getD_eq_getElem?_getD]
  by_cases h : a = i
  · subst h; simp [ha]
  · rw [if_neg h, if_neg (fun e => h e.symm)]
theorem rowC_no {n : Nat} {l : List Gm} {g : Gm} {p : Int} (h1 : p ≠ g.a) (h2 : p ≠ g.b) : rowC n (l ++ [g]) p = rowC n l p := by
  unfold rowC
  refine List.map_congr_left fun b _ => ?_
  rw [crT_snoc]
  unfold crS
  rw [if_neg (fun h => inv_no h1 h2 h.2.1), Int.add_zero]
theorem rowC_set {n : Nat} {l : List Gm} {g : Gm} {p q : Nat} {v : Int} (hq : q < n) (hpq : (g.a = p ∧ g.b = q) ∨ (g.a = q ∧ g.b = p)) (hne : p ≠ q) (hv : v = crT l p q + scS g p) : rowC n (l ++ [g]) p = (rowC n l p).set q v := by
  refine ith_ext (by rw [List.length_set, rowC_len, rowC_len]) fun b hb => ?_
  rw [rowC_len] at hb
  rw [ith_set (by rw [rowC_len]; exact hq), rowC_at hb, rowC_at hb, crT_snoc]
  unfold crS Inv
  by_cases hbq : b = q
  · subst hbq
    rw [if_pos rfl, hv, if_pos ⟨by omega, by omega, by omega⟩]
  · rw [if_neg hbq, if_neg (by rintro ⟨h1, h2, h3⟩; omega), Int.add_zero]
theorem cr_a {g : Gm} {a b : Nat} (ha : g.a = a) (hb : g.b = b) (h : a ≠ b) : scS g a = if g.o = 3 then 1 else if g.o = 1 then 3 else 0 := by
  have := sc_a (g := g) (by omega)
  rwa [ha] at this
theorem cr_b {g : Gm} {a b : Nat} (ha : g.a = a) (hb : g.b = b) (h : a ≠ b) : scS g b = if g.o = 3 then 1 else if g.o = 1 then 0 else 3 := by
  have := sc_b (g := g) (by omega)
  rwa [hb] at this

/-! ### A matrix of the call's own -/
def outer (G : Nat → Nat) (k n : Nat) : List Value := (List.range n).map fun i => if i < k then .slice (some ⟨G i, 0, none⟩) n n else .slice none 0 0
theorem outer_at {G : Nat → Nat} {k n i : Nat} (hi : i < n) (hk : i < k) : (outer G k n)[i]? = some (.slice (some ⟨G i, 0, none⟩) n n) := by
  unfold outer
  rw [List.getElem?_map, List.getElem?_range hi]
  simp [hk]
theorem outer_in {G : Nat → Nat} {k n i : Nat} (hi : i < n) : ∃ u, (outer G k n)[i]? = some u := ⟨_, List.getElem?_eq_getElem (by simp [outer, hi])⟩
def updF {α : Type} (f : Nat → α) (k : Nat) (v : α) : Nat → α := fun i => if i = k then v else f i
theorem outer_set {G : Nat → Nat} {k n g : Nat} (hk : k < n) : (outer G k n).set k (.slice (some ⟨g, 0, none⟩) n n) = outer (updF G k g) (k + 1) n := by
  refine List.ext_getElem? fun i => ?_
  rcases Nat.lt_or_ge i n with hi | hi
  · rw [List.getElem?_set]
    unfold outer updF
    simp only [List.length_map, List.length_range, List.getElem?_map, List.getElem?_range hi, Option.map_some]
    by_cases hik : k = i
    · subst hik; simp [hk]
    · rw [if_neg hik]
      by_cases h1 : i < k
      · rw [if_pos h1, if_pos (by omega), if_neg (by omega)]
      · rw [if_neg h1, if_neg (by omega)]
  · rw [List.getElem?_eq_none (by simp [outer]; exact hi), List.getElem?_eq_none (by simp [outer]; exact hi)]
structure CrM (B gO n k : Nat) (G : Nat → Nat) (M : Nat → List Int) (W : World) : Prop where
  O : XOwns W B 42 1 (some ⟨gO, 0, none⟩) n n (outer G k n)
  I : ∀ i, i < k → XOwns W B 3 1 (some ⟨G i, 0, none⟩) n n (ics (M i))
  inc : ∀ i j, i < j → j < k → G i < G j
section
variable {B gO n k : Nat} {G : Nat → Nat} {M : Nat → List Int} {W W' : World}
theorem CrM.below (h : CrM B gO n k G M W) (hb : Below W.heap.size W W') : CrM B gO n k G M W' := ⟨h.O.below hb, fun i hi => (h.I i hi).below hb, h.inc⟩
theorem CrM.more (h : CrM B gO n k G M W) {g : Nat} {xs : List Int} (hk : k < n) (hx : XOwns W' W.heap.size 3 1 (some ⟨g, 0, none⟩) n n (ics xs)) (hb : Below W.heap.size W W') (hB : B ≤ W.heap.size) : CrM B gO n (k + 1) (updF G k g) (updF M k xs) (W'.setCell ⟨gO, k, none⟩ (.slice (some ⟨g, 0, none⟩) n n)) := by
  have hg := (hx.lt g rfl).1
  have hO := h.O.below hb
  refine ⟨?_, fun i hi => ?_, fun i j hij hj => ?_⟩
  · have := hO.setX k (.slice (some ⟨g, 0, none⟩) n n)
    rwa [outer_set hk] at this
  · unfold updF
    by_cases hik : i = k
    · rw [if_pos hik, if_pos hik]
      refine (own_lower hx hB).put ?_
      rcases hx.apart hO (by decide) with h1 | h1
      · cases h1
      · exact h1
    · rw [if_neg hik, if_neg hik]
      have hI := (h.I i (by omega)).below hb
      refine hI.put ?_
      rcases hI.apart hO (by decide) with h1 | h1
      · cases h1
      · exact h1
  · unfold updF
    rw [if_neg (show i ≠ k by omega)]
    by_cases hjk : j = k
    · rw [if_pos hjk]
      have := ((h.I i (by omega)).lt (G i) rfl).2
      omega
    · rw [if_neg hjk]; exact h.inc i j hij (by omega)
theorem CrM.put (h : CrM B gO n k G M W) {a b : Nat} {v : Int} (ha : a < k) : CrM B gO n k G (updF M a ((M a).set b v)) (W.setCell ⟨G a, b, none⟩ (.int .i64 v)) := by
  refine ⟨h.O.put ?_, fun i hi => ?_, h.inc⟩
  · rcases h.O.apart (h.I a ha) (by decide) with h1 | h1
    · cases h1
    · exact h1
  · unfold updF
    by_cases hia : i = a
    · subst hia
      rw [if_pos rfl]
      have := (h.I i hi).setX b (.int .i64 v)
      rwa [show (ics (M i)).set b (.int .i64 v) = ics ((M i).set b v) by simp [ics]] at this
    · rw [if_neg hia]
      refine (h.I i hi).put ?_
      intro e
      injection e with e
      have e2 : G i = G a := e
      rcases Nat.lt_or_gt_of_ne hia with h1 | h1
      · have := h.inc i a h1 ha; omega
      · have := h.inc a i h1 hi; omega
theorem CrM.congr (h : CrM B gO n k G M W) {M' : Nat → List Int} (he : ∀ i, i < k → M i = M' i) : CrM B gO n k G M' W := ⟨h.O, fun i hi => by rw [← he i hi]; exact h.I i hi, h.inc⟩
theorem CrM.ocell (h : CrM B gO n k G M W) {i : Nat} (hi : i < k) (hn : k ≤ n) : W.cell? ⟨gO, i, none⟩ = some (.slice (some ⟨G i, 0, none⟩) n n) := by
  obtain ⟨g', hg, _, _, hc, _⟩ := h.O.cell (outer_at (G := G) (k := k) (n := n) (show i < n by omega) hi)
  injection hg with hg
  injection hg with hg
  subst hg
  exact hc
theorem CrM.ofree (h : CrM B gO n k G M W) {i : Nat} (hn : i < n) : (∃ u, W.cell? ⟨gO, i, none⟩ = some u) ∧ W.frozen? ⟨gO, i, none⟩ = false ∧ gO < W.heap.size := by
  obtain ⟨u, hu⟩ := outer_in (G := G) (k := k) hn
  obtain ⟨g', hg, _, h2, hc, hf⟩ := h.O.cell hu
  injection hg with hg
  injection hg with hg
  subst hg
  exact ⟨⟨u, hc⟩, hf, h2⟩
theorem CrM.icell (h : CrM B gO n k G M W) {i j : Nat} (hi : i < k) (hj : j < n) : W.cell? ⟨G i, j, none⟩ = some (.int .i64 (ith (M i) j)) ∧ W.frozen? ⟨G i, j, none⟩ = false ∧ G i < W.heap.size := by
  have hI := h.I i hi
  have hl := ilen hI.reads
  obtain ⟨g', hg, _, h2, hc, hf⟩ := hI.cell (j := j) (u := .int .i64 (ith (M i) j)) (by rw [ics, List.getElem?_map, ith_get (by omega)]; rfl)
  injection hg with hg
  injection hg with hg
  subst hg
  exact ⟨hc, hf, h2⟩
end
theorem Try.info42 : (Try.prog.info? 42).map (fun i => (i.zero, i.size, i.bytes)) = some (some (.slice none 0 0), 1, 24) := by kernel_rfl
theorem Try.info3 : (Try.prog.info? 3).map (fun i => (i.zero, i.size, i.bytes)) = some (some (.int .i64 0), 1, 8) := by kernel_rfl
theorem rep_map {α : Type} (n : Nat) (z : α) : (List.range n).map (fun _ => z) = List.replicate n z := List.eq_replicate_iff.2 ⟨by simp, fun b hb => by
  obtain ⟨_, _, h⟩ := List.mem_map.1 hb
  exact h.symm⟩
theorem outer_zero (G : Nat → Nat) (n : Nat) : outer G 0 n = List.replicate n (.slice none 0 0) := by
  unfold outer
  rw [← rep_map]
  refine List.map_congr_left fun i _ => ?_
  rw [if_neg (Nat.not_lt_zero _)]
theorem rowC_zero (n : Nat) (a : Int) : ics (rowC n [] a) = List.replicate n (.int .i64 0) := by
  unfold ics rowC rangeI
  rw [List.map_map, List.map_map, ← rep_map]
  rfl
theorem rep_one (n : Nat) (z : Value) (hz : z.cells = #[z]) : (List.replicate n z.cells.toList).flatten = List.replicate n z := by
  rw [hz]
  induction n with
  | zero => rfl
  | succ n ih => rw [List.replicate_succ, List.flatten_cons, ih, List.replicate_succ]; rfl

set_option maxHeartbeats 800000 in
theorem cross_bad (n : Int) (A : Option Addr) (len c : Nat) (l : List Gm) (w : World) (hx : Reads w 3 A len (gcells l)) (he : errS n l ≠ 0) :
    Calls Try.prog 14 #[.int .i64 n, .slice A len c] w fun e w' => e = .returned (.tuple #[.slice none 0 0, .int .i64 (errS n l)]) ∧ Below w.heap.size w w' := by
  have HX := Lib.hid hx
  have h1 : (errS n l == 0) = false := by rw [beq_eq_false_iff_ne]; exact he
  have h2 : (errS n l != 0) = true := by simp [bne, h1]
  clear hx he
  go_enter Try.func14, Try.ntmps14
  go_wp2_with (go_at_call 22; refine (check_any n A len c l _ HX.out).mono ?_; rintro e w1 ⟨rfl, hb1⟩)
  go_ret2
  exact ⟨rfl, hb1⟩
/-- What Cross hands back. -/
def CrossEnd (n : Nat) (l : List Gm) (w : World) (e : Ending) (w' : World) : Prop := ∃ gO G, e = .returned (.tuple #[.slice (some ⟨gO, 0, none⟩) n n, .int .i64 0]) ∧ CrM w.heap.size gO n n G (fun i => rowC n l i) w' ∧ Below w.heap.size w w'

set_option maxRecDepth 100000 in
set_option maxHeartbeats 3200000 in
theorem cross_ok (n : Nat) (A : Option Addr) (len c : Nat) (l : List Gm) (w : World) (hx : Reads w 3 A len (gcells l)) (he : errS n l = 0) :
    Calls Try.prog 14 #[.int .i64 n, .slice A len c] w (CrossEnd n l w) := by
  have HX := Lib.hid hx
  have HL := Lib.hid (glen hx)
  obtain ⟨hlen, hn1, hn2, hok⟩ := errS_zero he
  rw [glen hx] at hlen
  have HOK := Lib.hid hok
  have HE := Lib.hid he
  clear hx hok he
  go_enter Try.func14, Try.ntmps14
  go_wp2_with (first
    | (go_at_call 22; refine (check_any n A len c l _ HX.out).mono ?_; rw [HE.out]; rintro e w1 ⟨rfl, hb1⟩; have hz1 := hb1.size)
    | (at_make; refine make_k _ rfl (.tmp 19) (.tmp 19) 38 rfl w.heap.size 42 (.slice none 0 0) 1 24 Try.info42 Try.underlying38 rfl (by decide) .i64 .i64 _ _ n rfl rfl rfl rfl ?_ ?_ ?_ ?_; omega; omega; exact hz1; intro w2 ho2 hb2)
    | fail)
  rw [rep_one _ _ rfl] at ho2
  have HC0 : Hid (CrM w.heap.size w1.heap.size n 0 (fun _ => 0) (fun i => rowC n [] i) w2) := Lib.hid ⟨by (have h := ho2; rwa [← outer_zero (fun _ => 0)] at h), (fun i hi => absurd hi (by omega)), fun i j _ hj => absurd hj (by omega)⟩
  have HB2 : Hid (Below w.heap.size w w2) := Lib.hid (hb1.trans (hb2.mono hz1))
  clear ho2 hb2 hb1
  generalize w1.heap.size = gO at *
  go_loopw [23] (fun i W => ∃ (k : Nat) (G : Nat → Nat), k ≤ n ∧ i = .int .i64 k ∧ Hid (CrM w.heap.size gO n k G (fun i => rowC n [] i) W) ∧ Hid (Below w.heap.size w W)) (fun i _ => n - (intOf i).toNat)
  case atStart => exact ⟨0, _, Nat.zero_le _, rfl, HC0, HB2⟩
  case round =>
    obtain ⟨k, G, hk, rfl, HC, HB⟩ := hrel
    clear HC0 HB2
    have hwz := HB.out.size
    by_cases hlt : k < n
    · have hlt' : (k : Int) < n := by omega
      obtain ⟨⟨u, hc⟩, hf, hgl⟩ := HC.out.ofree (i := k) hlt
      go_wp2_with (at_make; refine make_k _ rfl (.tmp 28) (.tmp 28) 42 rfl wr.heap.size 3 (.int .i64 0) 1 8 Try.info3 Try.underlying42 rfl (by decide) .i64 .i64 _ _ n rfl rfl rfl rfl ?_ ?_ ?_ ?_; omega; omega; exact Nat.le_refl _; intro w3 ho3 hb3; have hc3 := (hb3.cell (p := ⟨gO, k, none⟩) hgl).trans hc; have hf3 := (hb3.frozen (p := ⟨gO, k, none⟩) hgl).trans hf; have hz3 := hb3.size; have hgl3 : gO < w3.heap.size := by omega)
      rw [rep_one _ _ rfl] at ho3
      have HO3 : Hid (XOwns w3 wr.heap.size 3 1 (some ⟨wr.heap.size, 0, none⟩) n n (ics (rowC n [] k))) := Lib.hid (by
        have h := ho3
        rwa [← rowC_zero n k] at h)
      go_roundw
      case rel => exact ⟨k + 1, updF G k wr.heap.size, hlt, by go_num, Lib.hid ((HC.out.more hlt HO3.out hb3 hwz).congr (fun i hi => by unfold updF; split <;> simp_all)), Lib.hid ((HB.out.trans (hb3.mono hwz)).setCell (p := ⟨gO, k, none⟩) (HC.out.O.lt gO rfl).1 _)⟩
      case measure => simp [intOf]; omega
    · obtain rfl : k = n := by omega
      have HC2 : Hid (CrM w.heap.size gO k k G (fun i => rowC k (l.take 0) i) wr) := Lib.hid HC.out
      clear HC
      generalize wr = wq at *
      go_wp2
      --@@LOOP
      go_loopw [34] (fun i W => ∃ q : Nat, q ≤ len ∧ i = .int .i64 q ∧ Hid (CrM w.heap.size gO k k G (fun i => rowC k (l.take q) i) W) ∧ Hid (Below w.heap.size w W)) (fun i _ => len - (intOf i).toNat)
      case atStart => exact ⟨0, Nat.zero_le _, rfl, HC2, HB⟩
      case round =>
        obtain ⟨q, hq, rfl, HC, HB2⟩ := hrel
        clear HC2 HB hwz
        have hwz := HB2.out.size
        by_cases hlt2 : q < len
        · have hlt2' : (q : Int) < len := by omega
          obtain ⟨ad, rfl, -, c0, c1, c2⟩ := game_at (HX.out.below HB2.out) hlt2
          have hgk := HOK.out _ (List.mem_of_getElem? (gth_get (xs := l) (k := q) (by rw [HL.out]; exact hlt2)))
          have HTK := Lib.hid (gtake_snoc (l := l) (k := q) (by rw [HL.out]; exact hlt2))
          generalize gth l q = g at *
          obtain ⟨ga, gb, go⟩ := g
          simp only at c0 c1 c2
          obtain ⟨g1, g2, g3, g4, g5, g6, g7⟩ := hgk
          simp only at g1 g2 g3 g4 g5 g6 g7
          obtain ⟨a, rfl⟩ : ∃ a : Nat, ga = a := ⟨ga.toNat, by omega⟩
          obtain ⟨b, rfl⟩ : ∃ b : Nat, gb = b := ⟨gb.toNat, by omega⟩
          have hab : a ≠ b := by omega
          have han : a < k := by omega
          have hbn : b < k := by omega
          have hql : (l.take q).length ≤ 2000 := by rw [List.length_take]; omega
          have s1 := crT_bd (l.take q) a b
          have s2 := crT_bd (l.take q) b a
          obtain ⟨ca, hca⟩ : ∃ s, crT (l.take q) a b = s := ⟨_, rfl⟩
          obtain ⟨cb, hcb⟩ : ∃ s, crT (l.take q) b a = s := ⟨_, rfl⟩
          have HCA : Hid (ith (rowC k (l.take q) a) b = ca) := Lib.hid (by rw [rowC_at hbn, hca])
          have HCB : Hid (ith (rowC k (l.take q) b) a = cb) := Lib.hid (by rw [rowC_at han, hcb])
          have HCA2 := Lib.hid hca
          have HCB2 := Lib.hid hcb
          rw [hca] at s1
          rw [hcb] at s2
          have z1 : 0 ≤ ca := s1.1
          have z2 : ca ≤ 6000 := by omega
          have z3 : 0 ≤ cb := s2.1
          have z4 : cb ≤ 6000 := by omega
          have hal : Below wr.heap.size wr (wr.alloc (.cells #[.int .i64 a, .int .i64 b, .int .i64 go] 30)) := (Below.refl _ _).alloc (Nat.le_refl _) _
          have HC5 := Lib.hid (HC.out.below hal)
          have HGM := Lib.hid (Blk.mk_ wr 30 #[.int .i64 a, .int .i64 b, .int .i64 go] _ rfl)
          have HB5 := Lib.hid (HB2.out.trans (hal.mono hwz))
          have HAB := Lib.hid hab
          clear g5 hca hcb s1 s2 hql hal
          rcases (show go = 1 ∨ go = 2 ∨ go = 3 by omega) with rfl | rfl | rfl
          · go_wp2_with (go_at_call 24; refine (points1 _).mono ?_; rintro e w6 ⟨rfl, rfl⟩)
            generalize wr.alloc (.cells #[.int .i64 a, .int .i64 b, .int .i64 1] 30) = w5 at *
            have k0 : ∀ s : Later w5.heap.size w5, s.W.cell? ⟨wr.heap.size, 0, none⟩ = some (.int .i64 a) := fun s => ((HGM.out.below s.h HGM.out.lt).at_ 0).trans rfl
            have k1 : ∀ s : Later w5.heap.size w5, s.W.cell? ⟨wr.heap.size, 1, none⟩ = some (.int .i64 b) := fun s => ((HGM.out.below s.h HGM.out.lt).at_ 1).trans rfl
            have k2 : ∀ s : Later w5.heap.size w5, s.W.cell? ⟨gO, a, none⟩ = some (.slice (some ⟨G a, 0, none⟩) k k) := fun s => (HC5.out.below s.h).ocell han (Nat.le_refl _)
            have k3 : ∀ s : Later w5.heap.size w5, s.W.cell? ⟨G a, b, none⟩ = some (.int .i64 ca) := fun s => by
              have h := ((HC5.out.below s.h).icell han hbn).1
              rwa [HCA.out] at h
            have hfr := (HC5.out.icell han hbn).2.1
            have hgl := (HC5.out.icell han hbn).2.2
            have hcell := (HC5.out.icell han hbn).1
            have hx : IntKind.i64.wrap (ca + 3) = ca + 3 := IntWalk.i64_in _ (by omega)
            refine wp_region_late (Ph (fun w' => ∃ s : Later w5.heap.size w5, w' = s.W) (fun _ => True)) [12] [0,1,2,3,4,5,6,7,8,9,10,11] (.one 12 [] .done) (by kernel_rfl) (by kernel_rfl) (fun d _ _ _ _ h => by cases d <;> exact h) ⟨⟨_, (Below.refl _ _).drew⟩, rfl⟩ ?_
            refine quiet_as (C' := (fun w' => ∃ s : Later w5.heap.size w5, w' = s.W)) rfl ?_
            simp only [opsAt, List.getElem?_toArray, List.getElem?_cons_succ, List.getElem?_cons_zero]
            repeat (go_big_quiet_step (fail))
            refine wpQuiet_nil ?_
            refine eff_as (C' := fun _ => True) rfl ?_
            (refine eff_lit rfl rfl (fun K hK => ?_))
            go_big_op
            refine hK _ _ trivial ?_
            clear hK K k0 k1 k2 k3 hfr hgl hcell hx
            simp only [opsAt, List.getElem?_toArray, List.getElem?_cons_succ, List.getElem?_cons_zero]
            refine wpQuiet_nil ?_
            refine effs_done ?_
            have HC6 := Lib.hid ((HC5.out.put (a := a) (b := b) (v := (ca + 3)) han).below (Below.refl _ _).drew)
            have HB6 := Lib.hid (HB5.out.setCell (p := ⟨G a, b, none⟩) ((HC5.out.I a han).lt (G a) rfl).1 (.int .i64 (ca + 3))).drew
            have HGM6 := Lib.hid (HGM.out.far (p := ⟨G a, b, none⟩) (fun e => (HC5.out.I a han).apart_blk HGM.out (by decide) (by rw [e]; rfl)) (.int .i64 (ca + 3))).drew
            have hrs : wr.heap.size < ((w5.setCell ⟨G a, b, none⟩ (.int .i64 (ca + 3))).drew).heap.size := HGM6.out.lt
            generalize (w5.setCell ⟨G a, b, none⟩ (.int .i64 (ca + 3))).drew = w6 at *
            have k0 : ∀ s : Later w6.heap.size w6, s.W.cell? ⟨wr.heap.size, 0, none⟩ = some (.int .i64 a) := fun s => ((HGM6.out.below s.h HGM6.out.lt).at_ 0).trans rfl
            have k1 : ∀ s : Later w6.heap.size w6, s.W.cell? ⟨wr.heap.size, 1, none⟩ = some (.int .i64 b) := fun s => ((HGM6.out.below s.h HGM6.out.lt).at_ 1).trans rfl
            have k2 : ∀ s : Later w6.heap.size w6, s.W.cell? ⟨gO, b, none⟩ = some (.slice (some ⟨G b, 0, none⟩) k k) := fun s => (HC6.out.below s.h).ocell hbn (Nat.le_refl _)
            have hMb : updF (fun i : Nat => rowC k (l.take q) i) a ((rowC k (l.take q) a).set b ((ca + 3))) b = rowC k (l.take q) b := by unfold updF; rw [if_neg (Ne.symm HAB.out)]
            have k3 : ∀ s : Later w6.heap.size w6, s.W.cell? ⟨G b, a, none⟩ = some (.int .i64 cb) := fun s => by
              have h := ((HC6.out.below s.h).icell hbn han).1
              rw [hMb, HCB.out] at h
              exact h
            have hfr := (HC6.out.icell hbn han).2.1
            have hgl := (HC6.out.icell hbn han).2.2
            have hcell := (HC6.out.icell hbn han).1
            have hx : IntKind.i64.wrap (cb + 0) = cb + 0 := IntWalk.i64_in _ (by omega)
            clear hMb
            go_wp2
            refine wp_region_late (Ph (fun w' => ∃ s : Later w6.heap.size w6, w' = s.W) (fun _ => True)) [12] [0,1,2,3,4,5,6,7,8,9,10,11] (.one 12 [] .done) (by kernel_rfl) (by kernel_rfl) (fun d _ _ _ _ h => by cases d <;> exact h) ⟨⟨_, (Below.refl _ _).drew⟩, rfl⟩ ?_
            refine quiet_as (C' := (fun w' => ∃ s : Later w6.heap.size w6, w' = s.W)) rfl ?_
            simp only [opsAt, List.getElem?_toArray, List.getElem?_cons_succ, List.getElem?_cons_zero]
            repeat (go_big_quiet_step (fail))
            refine wpQuiet_nil ?_
            refine eff_as (C' := fun _ => True) rfl ?_
            (refine eff_lit rfl rfl (fun K hK => ?_))
            go_big_op
            refine hK _ _ trivial ?_
            clear hK K k0 k1 k2 k3 hfr hgl hcell hx
            simp only [opsAt, List.getElem?_toArray, List.getElem?_cons_succ, List.getElem?_cons_zero]
            refine wpQuiet_nil ?_
            refine effs_done ?_
            have HC7 := Lib.hid ((HC6.out.put (a := b) (b := a) (v := cb) hbn).below (Below.refl _ _).drew)
            have HB7 := Lib.hid (HB6.out.setCell (p := ⟨G b, a, none⟩) ((HC6.out.I b hbn).lt (G b) rfl).1 (.int .i64 cb)).drew
            generalize (w6.setCell ⟨G b, a, none⟩ (.int .i64 cb)).drew = w7 at *
            go_wp2
            go_roundw
            case rel => exact ⟨q + 1, hlt2, by go_num, Lib.hid (HC7.out.congr (fun i hi => by
              have hab := HAB.out
              have e1 := cr_a (g := ⟨a, b, 1⟩) rfl rfl hab
              have e2 := cr_b (g := ⟨a, b, 1⟩) rfl rfl hab
              rw [HTK.out]
              unfold updF
              by_cases hib : i = b
              · subst hib
                rw [if_pos rfl, if_neg (Ne.symm hab)]
                exact (rowC_set (g := ⟨a, i, 1⟩) (p := i) (q := a) han (.inr ⟨rfl, rfl⟩) (Ne.symm hab) (by rw [e2, HCB2.out]; simp)).symm
              · rw [if_neg hib]
                by_cases hia : i = a
                · subst hia
                  rw [if_pos rfl]
                  exact (rowC_set (g := ⟨i, b, 1⟩) (p := i) (q := b) hbn (.inl ⟨rfl, rfl⟩) hab (by rw [e1, HCA2.out]; simp)).symm
                · rw [if_neg hia]
                  exact (rowC_no (g := ⟨a, b, 1⟩) (by simp only; omega) (by simp only; omega)).symm)), HB7⟩
            case measure => simp [intOf]; omega
          · go_wp2_with (go_at_call 24; refine (points2 _).mono ?_; rintro e w6 ⟨rfl, rfl⟩)
            generalize wr.alloc (.cells #[.int .i64 a, .int .i64 b, .int .i64 2] 30) = w5 at *
            have k0 : ∀ s : Later w5.heap.size w5, s.W.cell? ⟨wr.heap.size, 0, none⟩ = some (.int .i64 a) := fun s => ((HGM.out.below s.h HGM.out.lt).at_ 0).trans rfl
            have k1 : ∀ s : Later w5.heap.size w5, s.W.cell? ⟨wr.heap.size, 1, none⟩ = some (.int .i64 b) := fun s => ((HGM.out.below s.h HGM.out.lt).at_ 1).trans rfl
            have k2 : ∀ s : Later w5.heap.size w5, s.W.cell? ⟨gO, a, none⟩ = some (.slice (some ⟨G a, 0, none⟩) k k) := fun s => (HC5.out.below s.h).ocell han (Nat.le_refl _)
            have k3 : ∀ s : Later w5.heap.size w5, s.W.cell? ⟨G a, b, none⟩ = some (.int .i64 ca) := fun s => by
              have h := ((HC5.out.below s.h).icell han hbn).1
              rwa [HCA.out] at h
            have hfr := (HC5.out.icell han hbn).2.1
            have hgl := (HC5.out.icell han hbn).2.2
            have hcell := (HC5.out.icell han hbn).1
            have hx : IntKind.i64.wrap (ca + 0) = ca + 0 := IntWalk.i64_in _ (by omega)
            refine wp_region_late (Ph (fun w' => ∃ s : Later w5.heap.size w5, w' = s.W) (fun _ => True)) [12] [0,1,2,3,4,5,6,7,8,9,10,11] (.one 12 [] .done) (by kernel_rfl) (by kernel_rfl) (fun d _ _ _ _ h => by cases d <;> exact h) ⟨⟨_, (Below.refl _ _).drew⟩, rfl⟩ ?_
            refine quiet_as (C' := (fun w' => ∃ s : Later w5.heap.size w5, w' = s.W)) rfl ?_
            simp only [opsAt, List.getElem?_toArray, List.getElem?_cons_succ, List.getElem?_cons_zero]
            repeat (go_big_quiet_step (fail))
            refine wpQuiet_nil ?_
            refine eff_as (C' := fun _ => True) rfl ?_
            (refine eff_lit rfl rfl (fun K hK => ?_))
            go_big_op
            refine hK _ _ trivial ?_
            clear hK K k0 k1 k2 k3 hfr hgl hcell hx
            simp only [opsAt, List.getElem?_toArray, List.getElem?_cons_succ, List.getElem?_cons_zero]
            refine wpQuiet_nil ?_
            refine effs_done ?_
            have HC6 := Lib.hid ((HC5.out.put (a := a) (b := b) (v := ca) han).below (Below.refl _ _).drew)
            have HB6 := Lib.hid (HB5.out.setCell (p := ⟨G a, b, none⟩) ((HC5.out.I a han).lt (G a) rfl).1 (.int .i64 ca)).drew
            have HGM6 := Lib.hid (HGM.out.far (p := ⟨G a, b, none⟩) (fun e => (HC5.out.I a han).apart_blk HGM.out (by decide) (by rw [e]; rfl)) (.int .i64 ca)).drew
            have hrs : wr.heap.size < ((w5.setCell ⟨G a, b, none⟩ (.int .i64 ca)).drew).heap.size := HGM6.out.lt
            generalize (w5.setCell ⟨G a, b, none⟩ (.int .i64 ca)).drew = w6 at *
            have k0 : ∀ s : Later w6.heap.size w6, s.W.cell? ⟨wr.heap.size, 0, none⟩ = some (.int .i64 a) := fun s => ((HGM6.out.below s.h HGM6.out.lt).at_ 0).trans rfl
            have k1 : ∀ s : Later w6.heap.size w6, s.W.cell? ⟨wr.heap.size, 1, none⟩ = some (.int .i64 b) := fun s => ((HGM6.out.below s.h HGM6.out.lt).at_ 1).trans rfl
            have k2 : ∀ s : Later w6.heap.size w6, s.W.cell? ⟨gO, b, none⟩ = some (.slice (some ⟨G b, 0, none⟩) k k) := fun s => (HC6.out.below s.h).ocell hbn (Nat.le_refl _)
            have hMb : updF (fun i : Nat => rowC k (l.take q) i) a ((rowC k (l.take q) a).set b (ca)) b = rowC k (l.take q) b := by unfold updF; rw [if_neg (Ne.symm HAB.out)]
            have k3 : ∀ s : Later w6.heap.size w6, s.W.cell? ⟨G b, a, none⟩ = some (.int .i64 cb) := fun s => by
              have h := ((HC6.out.below s.h).icell hbn han).1
              rw [hMb, HCB.out] at h
              exact h
            have hfr := (HC6.out.icell hbn han).2.1
            have hgl := (HC6.out.icell hbn han).2.2
            have hcell := (HC6.out.icell hbn han).1
            have hx : IntKind.i64.wrap (cb + 3) = cb + 3 := IntWalk.i64_in _ (by omega)
            clear hMb
            go_wp2
            refine wp_region_late (Ph (fun w' => ∃ s : Later w6.heap.size w6, w' = s.W) (fun _ => True)) [12] [0,1,2,3,4,5,6,7,8,9,10,11] (.one 12 [] .done) (by kernel_rfl) (by kernel_rfl) (fun d _ _ _ _ h => by cases d <;> exact h) ⟨⟨_, (Below.refl _ _).drew⟩, rfl⟩ ?_
            refine quiet_as (C' := (fun w' => ∃ s : Later w6.heap.size w6, w' = s.W)) rfl ?_
            simp only [opsAt, List.getElem?_toArray, List.getElem?_cons_succ, List.getElem?_cons_zero]
            repeat (go_big_quiet_step (fail))
            refine wpQuiet_nil ?_
            refine eff_as (C' := fun _ => True) rfl ?_
            (refine eff_lit rfl rfl (fun K hK => ?_))
            go_big_op
            refine hK _ _ trivial ?_
            clear hK K k0 k1 k2 k3 hfr hgl hcell hx
            simp only [opsAt, List.getElem?_toArray, List.getElem?_cons_succ, List.getElem?_cons_zero]
            refine wpQuiet_nil ?_
            refine effs_done ?_
            have HC7 := Lib.hid ((HC6.out.put (a := b) (b := a) (v := (cb + 3)) hbn).below (Below.refl _ _).drew)
            have HB7 := Lib.hid (HB6.out.setCell (p := ⟨G b, a, none⟩) ((HC6.out.I b hbn).lt (G b) rfl).1 (.int .i64 (cb + 3))).drew
            generalize (w6.setCell ⟨G b, a, none⟩ (.int .i64 (cb + 3))).drew = w7 at *
            go_wp2
            go_roundw
            case rel => exact ⟨q + 1, hlt2, by go_num, Lib.hid (HC7.out.congr (fun i hi => by
              have hab := HAB.out
              have e1 := cr_a (g := ⟨a, b, 2⟩) rfl rfl hab
              have e2 := cr_b (g := ⟨a, b, 2⟩) rfl rfl hab
              rw [HTK.out]
              unfold updF
              by_cases hib : i = b
              · subst hib
                rw [if_pos rfl, if_neg (Ne.symm hab)]
                exact (rowC_set (g := ⟨a, i, 2⟩) (p := i) (q := a) han (.inr ⟨rfl, rfl⟩) (Ne.symm hab) (by rw [e2, HCB2.out]; simp)).symm
              · rw [if_neg hib]
                by_cases hia : i = a
                · subst hia
                  rw [if_pos rfl]
                  exact (rowC_set (g := ⟨i, b, 2⟩) (p := i) (q := b) hbn (.inl ⟨rfl, rfl⟩) hab (by rw [e1, HCA2.out]; simp)).symm
                · rw [if_neg hia]
                  exact (rowC_no (g := ⟨a, b, 2⟩) (by simp only; omega) (by simp only; omega)).symm)), HB7⟩
            case measure => simp [intOf]; omega
          · go_wp2_with (go_at_call 24; refine (points3 _).mono ?_; rintro e w6 ⟨rfl, rfl⟩)
            generalize wr.alloc (.cells #[.int .i64 a, .int .i64 b, .int .i64 3] 30) = w5 at *
            have k0 : ∀ s : Later w5.heap.size w5, s.W.cell? ⟨wr.heap.size, 0, none⟩ = some (.int .i64 a) := fun s => ((HGM.out.below s.h HGM.out.lt).at_ 0).trans rfl
            have k1 : ∀ s : Later w5.heap.size w5, s.W.cell? ⟨wr.heap.size, 1, none⟩ = some (.int .i64 b) := fun s => ((HGM.out.below s.h HGM.out.lt).at_ 1).trans rfl
            have k2 : ∀ s : Later w5.heap.size w5, s.W.cell? ⟨gO, a, none⟩ = some (.slice (some ⟨G a, 0, none⟩) k k) := fun s => (HC5.out.below s.h).ocell han (Nat.le_refl _)
            have k3 : ∀ s : Later w5.heap.size w5, s.W.cell? ⟨G a, b, none⟩ = some (.int .i64 ca) := fun s => by
              have h := ((HC5.out.below s.h).icell han hbn).1
              rwa [HCA.out] at h
            have hfr := (HC5.out.icell han hbn).2.1
            have hgl := (HC5.out.icell han hbn).2.2
            have hcell := (HC5.out.icell han hbn).1
            have hx : IntKind.i64.wrap (ca + 1) = ca + 1 := IntWalk.i64_in _ (by omega)
            refine wp_region_late (Ph (fun w' => ∃ s : Later w5.heap.size w5, w' = s.W) (fun _ => True)) [12] [0,1,2,3,4,5,6,7,8,9,10,11] (.one 12 [] .done) (by kernel_rfl) (by kernel_rfl) (fun d _ _ _ _ h => by cases d <;> exact h) ⟨⟨_, (Below.refl _ _).drew⟩, rfl⟩ ?_
            refine quiet_as (C' := (fun w' => ∃ s : Later w5.heap.size w5, w' = s.W)) rfl ?_
            simp only [opsAt, List.getElem?_toArray, List.getElem?_cons_succ, List.getElem?_cons_zero]
            repeat (go_big_quiet_step (fail))
            refine wpQuiet_nil ?_
            refine eff_as (C' := fun _ => True) rfl ?_
            (refine eff_lit rfl rfl (fun K hK => ?_))
            go_big_op
            refine hK _ _ trivial ?_
            clear hK K k0 k1 k2 k3 hfr hgl hcell hx
            simp only [opsAt, List.getElem?_toArray, List.getElem?_cons_succ, List.getElem?_cons_zero]
            refine wpQuiet_nil ?_
            refine effs_done ?_
            have HC6 := Lib.hid ((HC5.out.put (a := a) (b := b) (v := (ca + 1)) han).below (Below.refl _ _).drew)
            have HB6 := Lib.hid (HB5.out.setCell (p := ⟨G a, b, none⟩) ((HC5.out.I a han).lt (G a) rfl).1 (.int .i64 (ca + 1))).drew
            have HGM6 := Lib.hid (HGM.out.far (p := ⟨G a, b, none⟩) (fun e => (HC5.out.I a han).apart_blk HGM.out (by decide) (by rw [e]; rfl)) (.int .i64 (ca + 1))).drew
            have hrs : wr.heap.size < ((w5.setCell ⟨G a, b, none⟩ (.int .i64 (ca + 1))).drew).heap.size := HGM6.out.lt
            generalize (w5.setCell ⟨G a, b, none⟩ (.int .i64 (ca + 1))).drew = w6 at *
            have k0 : ∀ s : Later w6.heap.size w6, s.W.cell? ⟨wr.heap.size, 0, none⟩ = some (.int .i64 a) := fun s => ((HGM6.out.below s.h HGM6.out.lt).at_ 0).trans rfl
            have k1 : ∀ s : Later w6.heap.size w6, s.W.cell? ⟨wr.heap.size, 1, none⟩ = some (.int .i64 b) := fun s => ((HGM6.out.below s.h HGM6.out.lt).at_ 1).trans rfl
            have k2 : ∀ s : Later w6.heap.size w6, s.W.cell? ⟨gO, b, none⟩ = some (.slice (some ⟨G b, 0, none⟩) k k) := fun s => (HC6.out.below s.h).ocell hbn (Nat.le_refl _)
            have hMb : updF (fun i : Nat => rowC k (l.take q) i) a ((rowC k (l.take q) a).set b ((ca + 1))) b = rowC k (l.take q) b := by unfold updF; rw [if_neg (Ne.symm HAB.out)]
            have k3 : ∀ s : Later w6.heap.size w6, s.W.cell? ⟨G b, a, none⟩ = some (.int .i64 cb) := fun s => by
              have h := ((HC6.out.below s.h).icell hbn han).1
              rw [hMb, HCB.out] at h
              exact h
            have hfr := (HC6.out.icell hbn han).2.1
            have hgl := (HC6.out.icell hbn han).2.2
            have hcell := (HC6.out.icell hbn han).1
            have hx : IntKind.i64.wrap (cb + 1) = cb + 1 := IntWalk.i64_in _ (by omega)
            clear hMb
            go_wp2
            refine wp_region_late (Ph (fun w' => ∃ s : Later w6.heap.size w6, w' = s.W) (fun _ => True)) [12] [0,1,2,3,4,5,6,7,8,9,10,11] (.one 12 [] .done) (by kernel_rfl) (by kernel_rfl) (fun d _ _ _ _ h => by cases d <;> exact h) ⟨⟨_, (Below.refl _ _).drew⟩, rfl⟩ ?_
            refine quiet_as (C' := (fun w' => ∃ s : Later w6.heap.size w6, w' = s.W)) rfl ?_
            simp only [opsAt, List.getElem?_toArray, List.getElem?_cons_succ, List.getElem?_cons_zero]
            repeat (go_big_quiet_step (fail))
            refine wpQuiet_nil ?_
            refine eff_as (C' := fun _ => True) rfl ?_
            (refine eff_lit rfl rfl (fun K hK => ?_))
            go_big_op
            refine hK _ _ trivial ?_
            clear hK K k0 k1 k2 k3 hfr hgl hcell hx
            simp only [opsAt, List.getElem?_toArray, List.getElem?_cons_succ, List.getElem?_cons_zero]
            refine wpQuiet_nil ?_
            refine effs_done ?_
            have HC7 := Lib.hid ((HC6.out.put (a := b) (b := a) (v := (cb + 1)) hbn).below (Below.refl _ _).drew)
            have HB7 := Lib.hid (HB6.out.setCell (p := ⟨G b, a, none⟩) ((HC6.out.I b hbn).lt (G b) rfl).1 (.int .i64 (cb + 1))).drew
            generalize (w6.setCell ⟨G b, a, none⟩ (.int .i64 (cb + 1))).drew = w7 at *
            go_wp2
            go_roundw
            case rel => exact ⟨q + 1, hlt2, by go_num, Lib.hid (HC7.out.congr (fun i hi => by
              have hab := HAB.out
              have e1 := cr_a (g := ⟨a, b, 3⟩) rfl rfl hab
              have e2 := cr_b (g := ⟨a, b, 3⟩) rfl rfl hab
              rw [HTK.out]
              unfold updF
              by_cases hib : i = b
              · subst hib
                rw [if_pos rfl, if_neg (Ne.symm hab)]
                exact (rowC_set (g := ⟨a, i, 3⟩) (p := i) (q := a) han (.inr ⟨rfl, rfl⟩) (Ne.symm hab) (by rw [e2, HCB2.out]; simp)).symm
              · rw [if_neg hib]
                by_cases hia : i = a
                · subst hia
                  rw [if_pos rfl]
                  exact (rowC_set (g := ⟨i, b, 3⟩) (p := i) (q := b) hbn (.inl ⟨rfl, rfl⟩) hab (by rw [e1, HCA2.out]; simp)).symm
                · rw [if_neg hia]
                  exact (rowC_no (g := ⟨a, b, 3⟩) (by simp only; omega) (by simp only; omega)).symm)), HB7⟩
            case measure => simp [intOf]; omega
        · obtain rfl : q = len := by omega
          have HF : Hid (CrM w.heap.size gO k k G (fun i => rowC k l i) wr) := Lib.hid (by
            have h := HC.out
            rwa [List.take_of_length_le (by rw [HL.out]; exact Nat.le_refl _)] at h)
          go_wp2
          go_ret2
          exact ⟨gO, G, rfl, HF.out, HB2.out⟩
end Go.Proofs.Ytekbjlihpmjlfaa
