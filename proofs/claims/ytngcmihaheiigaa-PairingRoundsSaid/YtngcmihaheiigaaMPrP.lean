/-
  The model's pairing, plainly.
-/
import Derived.Test.YtngcmihaheiigaaMOrd
set_option linter.unusedSimpArgs false
set_option linter.unusedVariables false
namespace Go.Proofs.Ytngcmihaheiigaa

/-- The first of the left and the one at i: does the pairing take them? -/
def okI (fr : Int → Int → Bool) (l : List Int) (i : Nat) : Bool := fr (ith l 0) (ith l i) && (pairS fr (woS l i true)).isSome
theorem try_ok {fr : Int → Int → Bool} {x : Int} {r : List Int} {i : Nat} : tryS fr x r i = if okI fr (x :: r) (i + 1) = true then (pairS fr (woS (x :: r) (i + 1) true)).map fun l => ⟨x, ith (x :: r) (i + 1)⟩ :: l else none := by
  unfold tryS okI
  rw [woT]
  have h1 : ith (x :: r) 0 = x := by simp [ith]
  have h2 : ith (x :: r) (i + 1) = r.getD i 0 := by simp [ith]
  rw [h1, h2]
  generalize r.getD i 0 = y0
  simp only [List.drop_succ_cons, List.drop_zero, Nat.add_sub_cancel]
  by_cases hf : fr x y0 = true
  · rw [if_pos hf]
    cases hp : pairS fr (r.eraseIdx i) with
    | none => simp
    | some y => simp [hf]
  · rw [if_neg hf]
    simp [hf]
theorem pair_take {fr : Int → Int → Bool} {l : List Int} {i : Nat} (h1 : 1 ≤ i) (hi : i < l.length) (hok : okI fr l i = true) (hb : ∀ j, 1 ≤ j → j < i → okI fr l j = false) : pairS fr l = (pairS fr (woS l i true)).map fun m => ⟨ith l 0, ith l i⟩ :: m := by
  cases l with
  | nil => simp at hi
  | cons x r =>
    obtain ⟨i, rfl⟩ : ∃ k, i = k + 1 := ⟨i - 1, by omega⟩
    rw [pairS_cons]
    have hs : (pairS fr (woS (x :: r) (i + 1) true)).isSome = true := by
      unfold okI at hok
      simp only [Bool.and_eq_true] at hok
      exact hok.2
    obtain ⟨y, hy⟩ := Option.isSome_iff_exists.1 hs
    have h0 : ith (x :: r) 0 = x := by simp [ith]
    rw [hy, h0]
    refine firstF_some (i := i) (by simpa using hi) (fun j hj => ?_) ?_
    · rw [try_ok, hb (j + 1) (by omega) (by omega)]; rfl
    · rw [try_ok, if_pos hok, hy]; rfl
theorem pair_none {fr : Int → Int → Bool} {l : List Int} (hl : l ≠ []) (hb : ∀ j, 1 ≤ j → j < l.length → okI fr l j = false) : pairS fr l = none := by
  cases l with
  | nil => exact absurd rfl hl
  | cons x r =>
    rw [pairS_cons]
    refine firstF_none fun j hj => ?_
    rw [try_ok, hb (j + 1) (by omega) (by simp; omega)]; rfl
/-- Is the one at i the bye? -/
def okB (fr : Int → Int → Bool) (l : List Int) (i : Nat) : Bool := fr (ith l i) (ith l i) && (pairS fr (woS l i false)).isSome
theorem bye_ok {fr : Int → Int → Bool} {l : List Int} {i : Nat} : byeS fr l i = if okB fr l i = true then (pairS fr (woS l i false)).map fun m => m ++ [⟨ith l i, -1⟩] else none := by
  unfold byeS okB
  rw [woF]
  have h2 : ith l i = l.getD i 0 := by simp [ith]
  rw [h2]
  generalize l.getD i 0 = y0
  by_cases hf : fr y0 y0 = true
  · rw [if_pos hf]
    cases hp : pairS fr (l.eraseIdx i) with
    | none => simp
    | some y => simp [hf]
  · rw [if_neg hf]
    simp [hf]
theorem whole_even {fr : Int → Int → Bool} {l : List Int} (h : l.length % 2 = 0) : wholeS fr l = pairS fr l := by unfold wholeS; rw [if_pos h]
theorem whole_bye {fr : Int → Int → Bool} {l : List Int} {i : Nat} (h : l.length % 2 = 1) (hi : i < l.length) (hok : okB fr l i = true) (hb : ∀ j, i < j → j < l.length → okB fr l j = false) : wholeS fr l = (pairS fr (woS l i false)).map fun m => m ++ [⟨ith l i, -1⟩] := by
  unfold wholeS
  rw [if_neg (by omega)]
  have hs : (pairS fr (woS l i false)).isSome = true := by
    unfold okB at hok
    simp only [Bool.and_eq_true] at hok
    exact hok.2
  obtain ⟨y, hy⟩ := Option.isSome_iff_exists.1 hs
  rw [hy]
  refine firstF_some (i := l.length - 1 - i) (by omega) (fun j hj => ?_) ?_
  · show byeS fr l (l.length - 1 - j) = none
    rw [bye_ok, hb (l.length - 1 - j) (by omega) (by omega)]; rfl
  · show byeS fr l (l.length - 1 - (l.length - 1 - i)) = _
    rw [show l.length - 1 - (l.length - 1 - i) = i by omega, bye_ok, if_pos hok, hy]; rfl
theorem whole_none {fr : Int → Int → Bool} {l : List Int} (h : l.length % 2 = 1) (hb : ∀ j, j < l.length → okB fr l j = false) : wholeS fr l = none := by
  unfold wholeS
  rw [if_neg (by omega)]
  refine firstF_none fun j hj => ?_
  rw [bye_ok, hb (l.length - 1 - j) (by omega)]; rfl
end Go.Proofs.Ytngcmihaheiigaa
