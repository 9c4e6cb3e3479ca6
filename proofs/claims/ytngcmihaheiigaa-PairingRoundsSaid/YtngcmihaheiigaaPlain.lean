/-
  The plain law of pairing: duels, who has met, the pairs, the whole pairing.
-/
import Derived.Test.YtngcmihaheiigaaMem
namespace Go.Proofs.Ytngcmihaheiigaa

structure D where
  a : Int
  b : Int
deriving DecidableEq
def D.cells (d : D) : List Value := [.int .i64 d.a, .int .i64 d.b]
def dcells (l : List D) : List Value := l.flatMap D.cells
theorem dcells_len (l : List D) : (dcells l).length = l.length * 2 := by
  induction l with
  | nil => rfl
  | cons m l ih => simp only [dcells, List.flatMap_cons, List.length_append, List.length_cons] at ih ⊢; rw [ih]; simp [D.cells]; omega
theorem dcells_app (l m : List D) : dcells (l ++ m) = dcells l ++ dcells m := by simp [dcells]
def ics (l : List Int) : List Value := l.map (Value.int .i64)
theorem ics_one (l : List Int) : ∀ u ∈ ics l, u.oneCell' = true := by
  intro u hu
  obtain ⟨x, _, rfl⟩ := List.mem_map.1 hu
  rfl
theorem dcells_one (l : List D) : ∀ u ∈ dcells l, u.oneCell' = true := by
  intro u hu
  simp only [dcells, List.mem_flatMap] at hu
  obtain ⟨d, _, hd⟩ := hu
  simp [D.cells] at hd
  rcases hd with rfl | rfl <;> rfl

/-! ### Who has met -/
def metD (d : D) (a b : Int) : Bool := decide ((a = b ∧ d.a = a ∧ d.b = -1) ∨ (d.a = a ∧ d.b = b) ∨ (d.a = b ∧ d.b = a))
def metL (l : List D) (a b : Int) : Bool := l.any fun d => metD d a b
def metS (rs : List (List D)) (a b : Int) : Bool := rs.any fun l => metL l a b

/-! ### The pairs -/
section
variable (fr : Int → Int → Bool)
/-- The first place at which something is found. -/
def firstF {α : Type} (t : Nat → Option α) (n : Nat) : Option α := (List.range n).findSome? t
theorem firstF_none {α : Type} {t : Nat → Option α} {n : Nat} (h : ∀ i, i < n → t i = none) : firstF t n = none := by
  unfold firstF
  rw [List.findSome?_eq_none_iff]
  intro i hi
  exact h i (List.mem_range.1 hi)
theorem firstF_some {α : Type} {t : Nat → Option α} {n i : Nat} {x : α} (hi : i < n) (h : ∀ j, j < i → t j = none) (hx : t i = some x) : firstF t n = some x := by
  induction n with
  | zero => omega
  | succ n ih =>
    unfold firstF at ih ⊢
    rw [List.range_succ, List.findSome?_append]
    rcases Nat.lt_or_ge i n with h1 | h1
    · rw [ih h1]; rfl
    · obtain rfl : i = n := by omega
      have := firstF_none h
      unfold firstF at this
      rw [this]
      simp [hx]
def pairF : Nat → List Int → Option (List D)
  | _, [] => some []
  | 0, _ :: _ => none
  | f + 1, x :: r => firstF (fun i => if fr x (r.getD i 0) = true then (pairF f (r.eraseIdx i)).map fun l => ⟨x, r.getD i 0⟩ :: l else none) r.length
def pairS (l : List Int) : Option (List D) := pairF fr l.length l
theorem firstF_congr {α : Type} {t t' : Nat → Option α} {n : Nat} (h : ∀ i, i < n → t i = t' i) : firstF t n = firstF t' n := by
  induction n with
  | zero => rfl
  | succ n ih =>
    have := ih (fun i hi => h i (by omega))
    unfold firstF at this ⊢
    rw [List.range_succ, List.findSome?_append, List.findSome?_append, this]
    simp [h n (by omega)]
theorem pairF_enough : ∀ (f g : Nat) (l : List Int), l.length ≤ f → l.length ≤ g → pairF fr f l = pairF fr g l := by
  intro f
  induction f with
  | zero =>
    intro g l h _
    have : l = [] := List.eq_nil_of_length_eq_zero (by omega)
    subst this
    cases g <;> rfl
  | succ f ih =>
    intro g l h hg
    cases l with
    | nil => cases g <;> rfl
    | cons x r =>
      simp only [List.length_cons] at h hg
      obtain ⟨g, rfl⟩ : ∃ k, g = k + 1 := ⟨g - 1, by omega⟩
      simp only [pairF]
      refine firstF_congr fun i hi => ?_
      rw [ih g (r.eraseIdx i) (by rw [List.length_eraseIdx_of_lt hi]; omega) (by rw [List.length_eraseIdx_of_lt hi]; omega)]
/-- What is tried at the place i. -/
def tryS (x : Int) (r : List Int) (i : Nat) : Option (List D) := if fr x (r.getD i 0) = true then (pairS fr (r.eraseIdx i)).map fun l => ⟨x, r.getD i 0⟩ :: l else none
theorem pairS_nil : pairS fr [] = some [] := rfl
theorem pairS_cons (x : Int) (r : List Int) : pairS fr (x :: r) = firstF (tryS fr x r) r.length := by
  unfold pairS
  simp only [List.length_cons, pairF]
  refine firstF_congr fun i hi => ?_
  unfold tryS pairS
  rw [pairF_enough fr r.length (r.eraseIdx i).length (r.eraseIdx i) (by rw [List.length_eraseIdx_of_lt hi]; omega) (Nat.le_refl _)]
/-- What is tried as a bye. -/
def byeS (l : List Int) (i : Nat) : Option (List D) := if fr (l.getD i 0) (l.getD i 0) = true then (pairS fr (l.eraseIdx i)).map fun m => m ++ [⟨l.getD i 0, -1⟩] else none
def wholeS (l : List Int) : Option (List D) := if l.length % 2 = 0 then pairS fr l else firstF (fun k => byeS fr l (l.length - 1 - k)) l.length
end
end Go.Proofs.Ytngcmihaheiigaa
