/-
  A slice that is made, of structs too; rows of the table in memory.
-/
import Derived.Test.YtekbjlihpmjlfaaGms
import Derived.Test.YtekbjlihpmjlfaaSrt
set_option linter.unusedSimpArgs false
set_option linter.unusedVariables false
namespace Go.Proofs.Ytekbjlihpmjlfaa
open Go.RowKit

theorem made_list {z : Array Value} {k : Nat} (hk : z.size = k) (hk0 : 0 < k) (n : Nat) : (madeCells z (n * k)).toList = (List.replicate n z.toList).flatten := by
  have hlen : ∀ r ∈ List.replicate n z.toList, r.length = k := fun r hr => by rw [List.eq_of_mem_replicate hr]; simpa using hk
  have hfl : ((List.replicate n z.toList).flatten).length = n * k := by rw [List.length_flatten, List.map_replicate, List.sum_replicate_nat]; simp [hk]
  refine List.ext_getElem? fun t => ?_
  rcases Nat.lt_or_ge t (n * k) with ht | ht
  · have hi : t / k < n := Nat.div_lt_of_lt_mul (by rw [Nat.mul_comm]; exact ht)
    have hj := Nat.mod_lt t hk0
    have e : t / k * k + t % k = t := by rw [Nat.mul_comm]; exact Nat.div_add_mod t k
    have h2 := flatten_at (size := k) (List.replicate n z.toList) hlen (t / k) z.toList (by rw [List.getElem?_replicate, if_pos hi]) (t % k) hj
    rw [e] at h2
    rw [h2]
    simp only [madeCells, Array.toList_map, Array.toList_range, List.getElem?_map]
    rw [List.getElem?_range ht]
    simp only [Option.map_some, hk]
    rw [getElem!_pos _ _ (by rw [hk]; exact hj), Array.getElem?_toList, Array.getElem?_eq_getElem (by rw [hk]; exact hj)]
  · rw [List.getElem?_eq_none (by rw [Array.length_toList, size_madeCells]; exact ht), List.getElem?_eq_none (by rw [hfl]; exact ht)]
theorem make_k {P : Program} (w : World) {ops : Array Oper} {rest : List Oper} {o : Oper} {a : Act} {Q : Exit → Act → World → Prop}
    (hg : o.guard = none) (l c : Operand) (t : TypeId) (hop : o.op = Op.makeSlice t l c)
    (base : Nat) (e : TypeId) (z : Value) (size bytes : Nat) (hrow : (P.info? e).map (fun i => (i.zero, i.size, i.bytes)) = some (some z, size, bytes)) (ht : P.underlying t = some (.slice e)) (hzc : z.cells.size = size) (hs0 : 0 < size)
    (kl kc : IntKind) (L C : Int) (n : Nat) (hl : a.eval l = .int kl L) (hc : a.eval c = .int kc C) (hL : L = (n : Int)) (hC : C = (n : Int)) (b2 : n ≤ 1000000) (b3 : bytes ≤ 1000) (b4 : base ≤ w.heap.size)
    (hK : ∀ w', XOwns w' base e size (some ⟨w.heap.size, 0, none⟩) n n (List.replicate n z.cells.toList).flatten → Below w.heap.size w w' → wpList P ops Q rest (a.put o.dst (.slice (some ⟨w.heap.size, 0, none⟩) n n)) w') :
    wpList P ops Q (o :: rest) a w := by
  obtain ⟨i0, hi, hz0, hz1, hz2⟩ := info_parts hrow
  have hb : n * bytes ≤ 1000000 * 1000 := Nat.mul_le_mul b2 b3
  refine wpList_make_full w hg l c t hop base e i0 z size ht hi hz0 hz1 kl kc L C n hl hc hL hC (by rw [hz2, Nat.mul_comm]; omega) (by unfold maxLen; omega) b4 ?_
  intro w' ho hgr
  rw [made_list hzc hs0] at ho
  exact hK w' ⟨ho, fun h => by cases h⟩ ((Below.refl _ _).grown hgr (Nat.le_refl _) (fun k hk => by cases hk))

/-! ### Rows -/
def r0 : Rw := ⟨0, 0, 0, 0, 0, 0⟩
def rth (l : List Rw) (k : Nat) : Rw := l.getD k r0
theorem rth_get {xs : List Rw} {k : Nat} (h : k < xs.length) : xs[k]? = some (rth xs k) := by simp [rth, List.getD, List.getElem?_eq_getElem h]
theorem rth_ext {xs ys : List Rw} (hl : xs.length = ys.length) (h : ∀ j, j < xs.length → rth xs j = rth ys j) : xs = ys := by
  refine List.ext_getElem? fun j => ?_
  rcases Nat.lt_or_ge j xs.length with hj | hj
  · rw [rth_get hj, rth_get (by omega), h j hj]
  · rw [List.getElem?_eq_none hj, List.getElem?_eq_none (by omega)]
theorem rth_set {acc : List Rw} {a i : Nat} {v : Rw} (ha : a < acc.length) : rth (acc.set a v) i = if i = a then v else rth acc i := by
  unfold rth
  rw [List.getD_eq_getElem?_getD, List.getElem?_set, List.getD_eq_getElem?_getD]
  by_cases h : a = i
  · subst h; simp [ha]
  · rw [if_neg h, if_neg (fun e => h e.symm)]
theorem rth_map {n k : Nat} (h : k < n) (f : Int → Rw) : rth ((rangeI n).map f) k = f k := by
  unfold rth
  rw [List.getD_eq_getElem?_getD, List.getElem?_map, rangeI_get h]
  rfl
theorem rcells_len (l : List Rw) : (rcells l).length = l.length * 6 := flatMap_len (enc := Rw.cells) (fun _ => rfl) l
theorem rcells_at {l : List Rw} {i j : Nat} (hi : i < l.length) (hj : j < 6) : (rcells l)[i * 6 + j]? = (rth l i).cells[j]? := flatMap_at (enc := Rw.cells) (fun _ => rfl) (rth_get hi) hj
/-- A row with another number in one field. -/
def Rw.put (r : Rw) (j : Nat) (v : Int) : Rw := match j with
  | 0 => { r with pl := v }
  | 1 => { r with pt := v }
  | 2 => { r with am := v }
  | 3 => { r with wi := v }
  | 4 => { r with dr := v }
  | _ => { r with lo := v }
theorem put_cells (r : Rw) {j : Nat} (v : Int) (hj : j < 6) : (r.put j v).cells = r.cells.set j (.int .i64 v) := by
  rcases (show j = 0 ∨ j = 1 ∨ j = 2 ∨ j = 3 ∨ j = 4 ∨ j = 5 by omega) with rfl | rfl | rfl | rfl | rfl | rfl <;> rfl
theorem rcells_set {l : List Rw} {i j : Nat} {v : Int} (hi : i < l.length) (hj : j < 6) : (rcells l).set (i * 6 + j) (.int .i64 v) = rcells (l.set i ((rth l i).put j v)) := by
  refine List.ext_getElem? fun t => ?_
  have hln : (rcells (l.set i ((rth l i).put j v))).length = l.length * 6 := by rw [rcells_len, List.length_set]
  rcases Nat.lt_or_ge t (l.length * 6) with ht | ht
  · have hq : t / 6 < l.length := by omega
    have e : t / 6 * 6 + t % 6 = t := by omega
    have h1 := rcells_at (l := l) hq (show t % 6 < 6 by omega)
    have h2 := rcells_at (l := l.set i ((rth l i).put j v)) (by rw [List.length_set]; exact hq) (show t % 6 < 6 by omega)
    rw [e] at h1 h2
    rw [h2, rth_set hi, List.getElem?_set]
    by_cases hit : i * 6 + j = t
    · rw [if_pos hit, if_pos (by rw [rcells_len]; omega), if_pos (by omega), put_cells _ v hj, List.getElem?_set, if_pos (by omega), if_pos (by simp [Rw.cells]; omega)]
    · rw [if_neg hit, h1]
      by_cases hq2 : t / 6 = i
      · rw [if_pos hq2, hq2, put_cells _ v hj, List.getElem?_set, if_neg (by omega)]
      · rw [if_neg hq2]
  · rw [List.getElem?_eq_none (by rw [List.length_set, rcells_len]; exact ht), List.getElem?_eq_none (by rw [hln]; exact ht)]
theorem XOwns.storeR {w : World} {base g n c : Nat} {l : List Rw} (h : XOwns w base 33 6 (some ⟨g, 0, none⟩) n c (rcells l)) {i j : Nat} {v : Int} (hi : i < l.length) (hj : j < 6) {t : Nat} (ht : i * 6 + j = t) : XOwns (w.setCell ⟨g, t, none⟩ (.int .i64 v)) base 33 6 (some ⟨g, 0, none⟩) n c (rcells (l.set i ((rth l i).put j v))) := by
  have := h.setX t (.int .i64 v)
  subst ht
  rwa [rcells_set hi hj] at this
theorem rlen {w : World} {base g n c : Nat} {l : List Rw} (h : XOwns w base 33 6 (some ⟨g, 0, none⟩) n c (rcells l)) : l.length = n := by have := h.len; rw [rcells_len] at this; omega
theorem XOwns.rcell {w : World} {base g n c : Nat} {l : List Rw} (h : XOwns w base 33 6 (some ⟨g, 0, none⟩) n c (rcells l)) {i j : Nat} {u : Value} (hi : i < n) (hj : j < 6) (hu : (rth l i).cells[j]? = some u) {t : Nat} (ht : i * 6 + j = t) : w.cell? ⟨g, t, none⟩ = some u ∧ w.frozen? ⟨g, t, none⟩ = false := by
  have hl := rlen h
  obtain ⟨g', hg, _, _, hc, hf⟩ := h.cell (j := i * 6 + j) (u := u) (by rw [rcells_at (by omega) hj]; exact hu)
  injection hg with hg
  injection hg with hg
  subst hg ht
  exact ⟨hc, hf⟩
theorem Try.info33 : (Try.prog.info? 33).map (fun i => (i.zero, i.size, i.bytes)) = some (some (.agg #[.int .i64 0, .int .i64 0, .int .i64 0, .int .i64 0, .int .i64 0, .int .i64 0]), 6, 48) := by kernel_rfl
theorem rep_rows (n : Nat) : (List.replicate n ((Value.agg #[.int .i64 0, .int .i64 0, .int .i64 0, .int .i64 0, .int .i64 0, .int .i64 0]).cells.toList)).flatten = rcells (List.replicate n r0) := by
  unfold rcells
  rw [List.flatMap_def, List.map_replicate]
  rfl
end Go.Proofs.Ytekbjlihpmjlfaa
