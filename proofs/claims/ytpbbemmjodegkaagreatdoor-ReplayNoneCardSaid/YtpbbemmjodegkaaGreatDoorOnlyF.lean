/-
  What has turned: a set of blocks.
-/
import Derived.Test.YtpbbemmjodegkaaGreatDoorXOwn
set_option linter.unusedSimpArgs false
set_option linter.unusedVariables false
namespace Go.Proofs.YtpbbemmjodegkaaGreatDoor
open Go.RowKit

/-- Only these blocks have turned, of those that lay. -/
structure OnlyF (F : Nat → Prop) (w w' : World) : Prop where
  os : w'.os = w.os
  tape : w'.tape = w.tape
  output : w'.output = w.output
  size : w.heap.size ≤ w'.heap.size
  block : ∀ i, i < w.heap.size → ¬ F i → w'.heap[i]? = w.heap[i]?
theorem OnlyF.below {F : Nat → Prop} {B : Nat} {w w' : World} (h : OnlyF F w w') (hB : B ≤ w.heap.size) (hF : ∀ i, F i → B ≤ i) : Below B w w' :=
  ⟨h.os, h.tape, h.output, h.size, fun i hi => h.block i (by omega) fun hf => by have := hF i hf; omega⟩
theorem OnlyF.of_grown {F : Nat → Prop} {w w' : World} {r : Option Nat} (h : w.grownBy w' r) (hF : ∀ i, r = some i → F i) : OnlyF F w w' :=
  ⟨h.os, h.tape, h.output, h.size, fun i hi hn => h.block i hi fun e => hn (hF i e.symm)⟩
theorem OnlyF.of_below {F : Nat → Prop} {w w' : World} (h : Below w.heap.size w w') : OnlyF F w w' := ⟨h.os, h.tape, h.output, h.size, fun i hi _ => h.block i hi⟩
theorem OnlyF.refl {F : Nat → Prop} (w : World) : OnlyF F w w := OnlyF.of_below (Below.refl _ _)
theorem OnlyF.trans {F G : Nat → Prop} {a b c : World} (h : OnlyF F a b) (h' : OnlyF G b c) (hG : ∀ i, G i → i < a.heap.size → F i) : OnlyF F a c :=
  ⟨h'.os.trans h.os, h'.tape.trans h.tape, h'.output.trans h.output, Nat.le_trans h.size h'.size, fun i hi hn => (h'.block i (Nat.lt_of_lt_of_le hi h.size) fun hg => hn (hG i hg hi)).trans (h.block i hi hn)⟩
theorem OnlyF.more {F G : Nat → Prop} {w w' : World} (h : OnlyF F w w') (hG : ∀ i, F i → G i) : OnlyF G w w' := ⟨h.os, h.tape, h.output, h.size, fun i hi hn => h.block i hi fun hf => hn (hG i hf)⟩
theorem OnlyF.then {F : Nat → Prop} {a b c : World} (h : OnlyF F a b) (h' : Below b.heap.size b c) : OnlyF F a c := h.trans (OnlyF.of_below (F := fun _ => False) h') fun _ hf => hf.elim
theorem OnlyF.drew {F : Nat → Prop} {w w' : World} (h : OnlyF F w w') : OnlyF F w w'.drew := h.then (Below.refl _ _).drew
theorem OnlyF.alloc {F : Nat → Prop} {w w' : World} (h : OnlyF F w w') (o : Obj) : OnlyF F w (w'.alloc o) := h.then ((Below.refl _ _).alloc (Nat.le_refl _) o)
theorem OnlyF.put {F : Nat → Prop} {w w' : World} (h : OnlyF F w w') {p : Addr} (hp : F p.block ∨ w.heap.size ≤ p.block) (u : Value) : OnlyF F w (w'.setCell p u) :=
  ⟨h.os, h.tape, h.output, by simpa [World.setCell] using h.size, fun i hi hn => (Below.heap_setCell w' p u i (by
    rintro rfl
    rcases hp with hp | hp
    · exact hn hp
    · omega)).trans (h.block i hi hn)⟩
section
variable {w w' : World}
theorem Reads.foot {size n : Nat} {A : Option Addr} {xs : List Value} (h : Reads w size A n xs) (hn : 0 < n) : ∀ i, blkOf A = some i → i < w.heap.size := by
  intro i hi
  obtain ⟨ad, rfl, hb, _⟩ := h.2 hn
  simp [blkOf] at hi
  omega
theorem Reads.onlyF {F : Nat → Prop} {size n : Nat} {A : Option Addr} {xs : List Value} (h : Reads w size A n xs) (ho : OnlyF F w w') (hF : 0 < n → ∀ i, blkOf A = some i → ¬ F i) : Reads w' size A n xs :=
  ⟨h.1, fun hn => by
    obtain ⟨ad, rfl, hb, hc⟩ := h.2 hn
    refine ⟨ad, rfl, Nat.lt_of_lt_of_le hb ho.size, fun j u hu => (World.cell?_of_block (ho.block _ (by rw [block_of_add]; exact hb) ?_)).trans (hc j u hu)⟩
    rw [block_of_add]
    exact hF hn _ rfl⟩
theorem Blk.onlyF {F : Nat → Prop} {g : Nat} {t : TypeId} {cs : Array Value} (h : Blk w g t cs) (ho : OnlyF F w w') (hF : ¬ F g) : Blk w' g t cs := (ho.block g h.lt hF).trans h
theorem XOwns.onlyF {F : Nat → Prop} {base : Nat} {e : TypeId} {size : Nat} {A : Option Addr} {n cap : Nat} {xs : List Value} (h : XOwns w base e size A n cap xs) (ho : OnlyF F w w') (hF : ∀ i, blkOf A = some i → ¬ F i) : XOwns w' base e size A n cap xs := by
  refine ⟨⟨h.1.1, ?_⟩, h.2⟩
  rcases h.1.2 with h0 | ⟨g, c, cur, h1, h2, h3, h4⟩
  · exact .inl h0
  · refine .inr ⟨g, c, cur, h1, h2, ?_, h4⟩
    injection h1 with h1
    have hlt : g < w.heap.size := by
      rcases Nat.lt_or_ge g w.heap.size with h' | h'
      · exact h'
      · rw [Array.getElem?_eq_none h'] at h3; cases h3
    exact (ho.block g hlt (hF g (by rw [h1]; rfl))).trans h3
theorem XOwns.more {base base' : Nat} {e : TypeId} {size : Nat} {A : Option Addr} {n cap : Nat} {xs : List Value} (h : XOwns w base e size A n cap xs) (hb : base' ≤ base) : XOwns w base' e size A n cap xs := by
  refine ⟨⟨h.1.1, ?_⟩, h.2⟩
  rcases h.1.2 with h0 | ⟨g, c, cur, h1, h2, h3⟩
  · exact .inl h0
  · exact .inr ⟨g, c, cur, h1, by omega, h3⟩
theorem XOwns.capOk {base : Nat} {e : TypeId} {size : Nat} {A : Option Addr} {n cap : Nat} {xs : List Value} (h : XOwns w base e size A n cap xs) : n ≤ cap ∧ cap ≤ 9223372036854775807 := by
  rcases h.1.2 with ⟨h0, h1⟩ | ⟨g, c, cur, h1, h2, h3, h4, h5, _⟩
  · injection h0 with _ _ h0
    omega
  · injection h1 with _ _ h1
    unfold maxLen at h5
    omega
theorem XOwns.nil_ (w : World) (base : Nat) (e : TypeId) (size : Nat) : XOwns w base e size none 0 0 [] := ⟨World.ownsRow_nil _ _ _ _, fun _ => rfl⟩
/-- A cell of what is owned, at a place with an element of one cell. -/
theorem XOwns.cell {base : Nat} {e : TypeId} {size : Nat} {A : Option Addr} {n cap : Nat} {xs : List Value} (h : XOwns w base e size A n cap xs) {j : Nat} {u : Value} (hj : xs[j]? = some u) : ∃ g, A = some ⟨g, 0, none⟩ ∧ base ≤ g ∧ g < w.heap.size ∧ w.cell? ⟨g, j, none⟩ = some u ∧ w.frozen? ⟨g, j, none⟩ = false := by
  have hn : 0 < n := by
    rcases Nat.eq_zero_or_pos n with h0 | h0
    · subst h0
      have := h.1.1
      simp at this
      subst this
      simp at hj
    · exact h0
  obtain ⟨g, c, hv, h1, h2⟩ := h.1.form hn
  injection hv with hv
  subst hv
  refine ⟨g, rfl, h1, h2, ?_, h.1.frozenAt j⟩
  have := h.1.cells (g := g) rfl j u hj
  have e : (⟨g, 0, none⟩ : Addr).add j = ⟨g, j, none⟩ := by unfold Addr.add; split <;> simp_all
  rwa [e] at this
end
end Go.Proofs.YtpbbemmjodegkaaGreatDoor
