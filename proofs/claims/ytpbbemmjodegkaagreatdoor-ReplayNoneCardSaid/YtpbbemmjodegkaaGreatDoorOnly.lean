/-
  More words for memory: a store into a row of the call's own; only one block has turned.
-/
import Derived.Test.YtpbbemmjodegkaaGreatDoorLaw
namespace Go.Proofs.YtpbbemmjodegkaaGreatDoor
open Go.RowKit

section
variable {a w w' : World} {row : Option Nat} {g : Nat}
theorem only_refl (w : World) (row : Option Nat) : w.grownBy w row := ⟨rfl, rfl, rfl, Nat.le_refl _, fun _ _ _ => rfl⟩
theorem only_setCell (h : a.grownBy w (some g)) {p : Addr} (hp : p.block = g ∨ a.heap.size ≤ p.block) (u : Value) : a.grownBy (w.setCell p u) (some g) :=
  ⟨h.os, h.tape, h.output, by simpa [World.setCell] using h.size, fun i hi hne => (Below.heap_setCell w p u i (by
    rintro rfl
    rcases hp with hp | hp
    · exact hne (by rw [hp])
    · omega)).trans (h.block i hi hne)⟩
theorem only_cell (h : a.grownBy w (some g)) (b : Nat) (hb : b < a.heap.size) (hne : b ≠ g) : ∀ o, w.cell? ⟨b, o, none⟩ = a.cell? ⟨b, o, none⟩ := fun o =>
  World.cell?_of_block (h.block b hb (fun e => hne (by injection e)))
theorem only_frozen (h : a.grownBy w (some g)) (b : Nat) (hb : b < a.heap.size) (hne : b ≠ g) : ∀ o, w.frozen? ⟨b, o, none⟩ = a.frozen? ⟨b, o, none⟩ := fun o =>
  World.frozen?_of_block (h.block b hb (fun e => hne (by injection e)))
theorem only_below {B : Nat} {v : World} (h : a.grownBy w (some g)) (hv : Below B v a) (hB : B ≤ a.heap.size) (hg : B ≤ g) : Below B v w :=
  hv.grown h hB (fun k hk => by injection hk with hk; omega)
/-- What the call owns from 'base' on stays while a block below base alone turns. -/
theorem BOwns.only {base : Nat} {e : TypeId} {A : Option Addr} {n cap : Nat} {xs : List Int} (h : BOwns a base e A n cap xs) (ho : a.grownBy w (some g)) (hg : g < base) : BOwns w base e A n cap xs := by
  refine ⟨h.1.kept ho ?_, h.2⟩
  rcases hv : (Value.slice A n cap).ownBlock with _ | b
  · exact .inl rfl
  · refine .inr (fun e => ?_)
    injection e with e
    have := (h.1.lt b hv).1
    omega
theorem BReads.only {A : Option Addr} {n : Nat} {xs : List Int} (h : BReads a A n xs) (ho : a.grownBy w (some g)) (hg : ∀ ad, A = some ad → ad.block ≠ g) : BReads w A n xs := by
  refine ⟨⟨h.1.1, fun hn => ?_⟩, h.2⟩
  obtain ⟨ad, e, hb, hc⟩ := h.1.2 hn
  refine ⟨ad, e, Nat.lt_of_lt_of_le hb ho.size, fun j u hu => ?_⟩
  rw [← hc j u hu]
  refine World.cell?_of_block (ho.block _ (by rw [block_of_add]; exact hb) (fun e' => ?_))
  injection e' with e'
  rw [block_of_add] at e'
  exact hg ad e e'
end

/-- The head of what is owned. -/
theorem BOwns.head {w : World} {base : Nat} {e : TypeId} {A : Option Addr} {n cap : Nat} {xs : List Int} (h : BOwns w base e A n cap xs) (hn : 0 < n) :
    ∃ g, A = some ⟨g, 0, none⟩ ∧ base ≤ g ∧ g < w.heap.size := by
  obtain ⟨g, c, hv, h1, h2⟩ := h.1.form hn
  injection hv with hv
  exact ⟨g, hv, h1, h2⟩
theorem BOwns.cellAt {w : World} {base : Nat} {e : TypeId} {g n cap : Nat} {xs : List Int} (h : BOwns w base e (some ⟨g, 0, none⟩) n cap xs) {j : Nat} (hj : j < n) :
    w.cell? ⟨g, j, none⟩ = some (.int .u8 (nth xs j)) ∧ w.frozen? ⟨g, j, none⟩ = false ∧ 0 ≤ nth xs j ∧ nth xs j ≤ 255 := by
  have hl := h.length
  have hg : nth xs j = xs[j]'(by omega) := by simp [nth, List.getD, List.getElem?_eq_getElem (show j < xs.length by omega)]
  refine ⟨?_, h.1.frozenAt j, ?_⟩
  · rw [h.1.cellAt j (by omega), bys, List.getElem?_map, List.getElem?_eq_getElem (by omega), hg]
    rfl
  · rw [hg]
    exact h.2.1 _ (List.getElem_mem _)
theorem bys_set (xs : List Int) (j : Nat) (u : Int) : (bys xs).set j (.int .u8 u) = bys (xs.set j u) := by simp [bys]
theorem BOwns.stored {w : World} {base : Nat} {e : TypeId} {g n cap : Nat} {xs : List Int} (h : BOwns w base e (some ⟨g, 0, none⟩) n cap xs) {j : Nat} (u : Int) (_hj : j < n) (hu : 0 ≤ u ∧ u ≤ 255) :
    BOwns (w.setCell ⟨g, j, none⟩ (.int .u8 u)) base e (some ⟨g, 0, none⟩) n cap (xs.set j u) := by
  have hl := h.length
  refine ⟨?_, fun z hz => ?_, h.2.2⟩
  · rw [← bys_set]
    exact (h.1.stored j (.int .u8 u)).1
  · rcases List.mem_or_eq_of_mem_set hz with hz | rfl
    · exact h.2.1 z hz
    · exact hu

theorem make_bytes_full {P : Program} (w : World) {ops : Array Oper} {rest : List Oper} {o : Oper} {a : Act} {Q : Exit → Act → World → Prop}
    (hg : o.guard = none) (l c : Operand) (t : TypeId) (hop : o.op = Op.makeSlice t l c)
    (base : Nat) (e : TypeId) (hrow : (P.info? e).map (fun i => (i.zero, i.size, i.bytes)) = some (some (.int .u8 0), 1, 1)) (ht : P.underlying t = some (.slice e))
    (kl kc : IntKind) (L C : Int) (n : Nat) (hl : a.eval l = .int kl L) (hc : a.eval c = .int kc C) (hL : L = (n : Int)) (hC : C = (n : Int)) (b2 : n ≤ 281474976710656) (b4 : base ≤ w.heap.size)
    (hK : ∀ w', BOwns w' base e (some ⟨w.heap.size, 0, none⟩) n n (List.replicate n 0) → Below w.heap.size w w' → wpList P ops Q rest (a.put o.dst (.slice (some ⟨w.heap.size, 0, none⟩) n n)) w') :
    wpList P ops Q (o :: rest) a w := by
  obtain ⟨i0, hi, hz0, hz1, hz2⟩ := info_parts hrow
  refine wpList_make_full w hg l c t hop base e i0 (.int .u8 0) 1 ht hi hz0 hz1 kl kc L C n hl hc hL hC (by rw [hz2]; omega) (by unfold maxLen; omega) b4 ?_
  intro w' ho hgr
  have hz : (madeCells (Value.int .u8 0).cells (n * 1)).toList = bys (List.replicate n 0) := by
    rw [Nat.mul_one]
    show (madeCells #[Value.int .u8 0] n).toList = _
    rw [toList_madeCells_one, bys, List.map_replicate]
  rw [hz] at ho
  exact hK w' ⟨ho, (fun z hz => by rw [List.eq_of_mem_replicate hz]; decide), fun h => by cases h⟩ ((Below.refl _ _).grown hgr (Nat.le_refl _) (fun k hk => by cases hk))

end Go.Proofs.YtpbbemmjodegkaaGreatDoor
