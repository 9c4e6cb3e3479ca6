/-
  A tournament and the model side by side.
-/
import Derived.Test.YtngcmihaheiigaaMRp
import Derived.Test.YtngcmihaheiigaaHldM
set_option linter.unusedSimpArgs false
set_option linter.unusedVariables false
namespace Go.Proofs.Ytngcmihaheiigaa
open Go.RowKit

structure TM (B p q : Nat) (s1 : TS) (x : TC) (s2 : TS) (y : MC) (W : World) : Prop where
  T : Tn W B p s1 x
  M : Mn W B q s2 y
  sep : ∀ i, FootT p x i → ¬ FootM q y i
section
variable {w w' : World} {B p q : Nat} {s1 s2 s1' s2' : TS} {x x' : TC} {y y' : MC}
theorem TM.below (h : TM B p q s1 x s2 y w) (hb : Below w.heap.size w w') : TM B p q s1 x s2 y w' := ⟨h.T.below hb, h.M.below hb, h.sep⟩
theorem TM.size (h : TM B p q s1 x s2 y w) : B ≤ w.heap.size := by have := h.T.base; have := h.T.blk.lt; omega
theorem TM.turnM (h : TM B p q s1 x s2 y w) (hM : Mn w' B q s2' y') (hF : OnlyF (MutM q y) w w') (hf : ∀ i, FootM q y' i → FootM q y i ∨ w.heap.size ≤ i) : TM B p q s1 x s2' y' w' :=
  ⟨h.T.onlyF hF (fun i hi hm => h.sep i hi (.inl hm)), hM, fun i hi hm => by
    rcases hf i hm with h1 | h1
    · exact h.sep i hi h1
    · have := (h.T.foot i hi).2; omega⟩
theorem TM.turnT (h : TM B p q s1 x s2 y w) (hT : Tn w' B p s1' x') (hF : OnlyF (MutT p x) w w') (hf : ∀ i, FootT p x' i → FootT p x i ∨ w.heap.size ≤ i) : TM B p q s1' x' s2 y w' :=
  ⟨hT, h.M.onlyF hF (fun i hi hm => h.sep i (.inl hm) hi), fun i hi hm => by
    rcases hf i hi with h1 | h1
    · exact h.sep i h1 hm
    · have := (h.M.foot i hm).2; omega⟩
theorem TM.belowM (h : TM B p q s1 x s2 y w) (hF : OnlyF (MutM q y) w w') : Below B w w' := hF.below h.size (fun i hi => (h.M.foot i (.inl hi)).1)
theorem TM.belowT (h : TM B p q s1 x s2 y w) (hF : OnlyF (MutT p x) w w') : Below B w w' := hF.below h.size (fun i hi => (h.T.foot i (.inl hi)).1)
/-- A store to a block that belongs to neither. -/
theorem TM.put (h : TM B p q s1 x s2 y w) {g i : Nat} {u : Value} (h1 : ∀ i, FootT p x i → i ≠ g) (h2 : ∀ i, FootM q y i → i ≠ g) : TM B p q s1 x s2 y (w.setCell ⟨g, i, none⟩ u) :=
  have ho : OnlyF (g = ·) w (w.setCell ⟨g, i, none⟩ u) := (OnlyF.refl w).put (p := ⟨g, i, none⟩) (.inl rfl) u
  ⟨h.T.onlyF ho (fun i hi e => h1 i hi e.symm), h.M.onlyF ho (fun i hi e => h2 i hi e.symm), h.sep⟩
end
/-- The copy keeps when the first one goes on. -/
theorem copy_apart {w w1 W : World} {B B' p g : Nat} {st s1 s2 : TS} {x x1 x2 : TC} (hT : Tn w B p st x) (hf : ∀ i, FootT g x1 i → FootT p x i ∨ w.heap.size ≤ i) (hm : ∀ i, MutT g x1 i → w.heap.size ≤ i) (h1 : Tn w1 B g s1 x1) (hW1 : Tn W B g s1 x1) (h2 : Tn W B' p s2 x2) (h3 : ∀ i, FootT p x2 i → FootT p x i ∨ w1.heap.size ≤ i) :
    ∀ i, FootT g x1 i → ¬ MutT p x2 i := by
  rintro i (hi | ⟨k, s, hk, hi⟩) hmu
  · have h4 := hm i hi
    have h5 := (h1.foot i (.inl hi)).2
    rcases h3 i (.inl hmu) with h6 | h6
    · have := (hT.foot i h6).2; omega
    · omega
  · have hl : k < s1.rounds.length := by rw [← hW1.rs_len]; exact (List.getElem?_eq_some_iff.1 hk).1
    exact h2.apart (hW1.ird k s _ hk (List.getElem?_eq_getElem hl)) (by decide) (by decide) (by decide) (by decide) (by decide) i hmu hi
end Go.Proofs.Ytngcmihaheiigaa
