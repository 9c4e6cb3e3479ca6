/-
  A slice of structs: rows of cells, all of one width.
-/
import Derived.Test.YtpbbemmjodegkaaGreatDoorOnly
namespace Go.Proofs.YtpbbemmjodegkaaGreatDoor
open Go.RowKit

/-- The slice (A, n) reads as these rows of 'size' cells. -/
def RowR (w : World) (size : Nat) (A : Option Addr) (n : Nat) (rows : List (List Value)) : Prop :=
  Reads w size A n rows.flatten ∧ (∀ r ∈ rows, r.length = size) ∧ rows.length = n
theorem flatten_at {size : Nat} : ∀ (rows : List (List Value)), (∀ r ∈ rows, r.length = size) → ∀ (k : Nat) (r : List Value), rows[k]? = some r → ∀ j, j < size → rows.flatten[k * size + j]? = r[j]?
  | [], _, k, r, h, _, _ => by simp at h
  | q :: rows, hs, k, r, h, j, hj => by
    have hq := hs q (List.mem_cons_self ..)
    match k, h with
    | 0, h =>
      simp at h
      subst h
      rw [List.flatten_cons, List.getElem?_append_left (by omega)]
      simp
    | k + 1, h =>
      rw [List.flatten_cons, List.getElem?_append_right (by rw [hq, Nat.add_mul]; omega), show (k + 1) * size + j - q.length = k * size + j from by rw [hq, Nat.add_mul]; omega]
      exact flatten_at rows (fun r hr => hs r (List.mem_cons_of_mem _ hr)) k r (by simpa using h) j hj
section
variable {w w' : World} {size n : Nat} {A : Option Addr} {rows : List (List Value)}
theorem RowR.below (h : RowR w size A n rows) (hb : Below w.heap.size w w') : RowR w' size A n rows := ⟨h.1.below hb, h.2⟩
theorem RowR.nil (w : World) (size : Nat) : RowR w size none 0 [] := ⟨Reads.none_, (fun _ h => by cases h), rfl⟩
theorem RowR.at_ (h : RowR w size A n rows) {k : Nat} (hk : k < n) : ∃ (ad : Addr) (r : List Value), A = some ad ∧ ad.block < w.heap.size ∧ rows[k]? = some r ∧ r.length = size ∧ ∀ j u, r[j]? = some u → w.cell? (ad.add (k * size + j)) = some u := by
  obtain ⟨h1, h2, h3⟩ := h
  obtain ⟨ad, e, hb, hc⟩ := h1.2 (by omega)
  have hg : rows[k]? = some (rows[k]'(by omega)) := List.getElem?_eq_getElem (by omega)
  have hr := h2 _ (List.getElem_mem (by omega : k < rows.length))
  refine ⟨ad, _, e, hb, hg, hr, fun j u hu => hc _ _ ?_⟩
  have hj : j < size := by
    rcases Nat.lt_or_ge j size with h' | h'
    · exact h'
    · rw [List.getElem?_eq_none (by omega)] at hu; cases hu
  rw [flatten_at rows h2 k _ hg j hj]
  exact hu
end
/-- The address of a part of a row, as the walk writes it. -/
theorem part_at {w : World} {a : Addr} {i : Nat} {v : Value} (j : Nat) (h : w.cell? (a.add (i + (j + 1))) = some v) : w.cell? ⟨(a.add i).block, (a.add i).off + (j + 1), none⟩ = some v := by
  rw [← add_of_add] at h
  generalize a.add i = b at *
  simpa [Addr.add] using h
end Go.Proofs.YtpbbemmjodegkaaGreatDoor
