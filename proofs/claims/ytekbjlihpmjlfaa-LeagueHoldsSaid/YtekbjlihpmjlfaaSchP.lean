/-
  The plain law of the schedule: what is drawn up, sorted, is the one schedule.
-/
import Derived.Test.YtekbjlihpmjlfaaGms
set_option linter.unusedSimpArgs false
set_option linter.unusedVariables false
namespace Go.Proofs.Ytekbjlihpmjlfaa
open Go.Shelf Go.Lib Go.Sort

/-- The duel of two players. -/
def dueN (a b : Nat) : Nat × Nat := if (a + b) % 2 = 1 then (max a b, min a b) else (min a b, max a b)
def evN (n : Nat) : Nat := n + n % 2
/-- The first duels of a round, as they are drawn up. -/
def rawK (n r k : Nat) : List (Nat × Nat) := (if evN n = n then [dueN (evN n - 1) r] else []) ++ (List.range k).map fun i => dueN ((r + (i + 1)) % (evN n - 1)) ((r + (evN n - 1) - (i + 1)) % (evN n - 1))
def rawN (n r : Nat) : List (Nat × Nat) := rawK n r (evN n / 2 - 1)
/-- Against whom a player plays. -/
def parN (n r a : Nat) : Nat := if a = evN n - 1 then r else if a = r then evN n - 1 else (2 * r + (evN n - 1) - a) % (evN n - 1)
def duelOf (n r a : Nat) : Option (Nat × Nat) := if parN n r a < a ∨ n ≤ parN n r a then none else some (if (a + parN n r a) % 2 = 0 then (a, parN n r a) else (parN n r a, a))
def schN (n r : Nat) : List (Nat × Nat) := (List.range n).filterMap (duelOf n r)
def lowN (d : Nat × Nat) : Nat := min d.1 d.2
def upB : List (Nat × Nat) → Bool
  | [] => true
  | d :: l => l.all (fun e => Nat.blt (lowN d) (lowN e)) && upB l
def okN (n r : Nat) : Bool := (rawN n r).isPerm (schN n r) && upB (schN n r) && (schN n r).all (fun d => Nat.blt d.1 n && Nat.blt d.2 n && !Nat.beq d.1 d.2)
theorem all_ok : ∀ n, n < 41 → 2 ≤ n → ∀ r, r < evN n - 1 → okN n r = true := by decide +kernel
def D.of (d : Nat × Nat) : D := ⟨d.1, d.2⟩
def schS (n r : Nat) : List D := (schN n r).map D.of
def rawS (n r k : Nat) : List D := (rawK n r k).map D.of
theorem of_min (d : Nat × Nat) : min (D.of d).a (D.of d).b = ((lowN d : Nat) : Int) := by unfold D.of lowN; simp only; omega
theorem upB_pw : ∀ l : List (Nat × Nat), upB l = true → (l.map D.of).Pairwise fun x y => min x.a x.b < min y.a y.b
  | [], _ => by simp
  | d :: l, h => by
    simp only [upB, Bool.and_eq_true, List.all_eq_true] at h
    rw [List.map_cons, List.pairwise_cons]
    refine ⟨fun e he => ?_, upB_pw l h.2⟩
    obtain ⟨e', he', rfl⟩ := List.mem_map.1 he
    have h1 := h.1 e' he'
    rw [Nat.blt_eq] at h1
    rw [of_min, of_min]
    omega
theorem perm_eqG {α : Type} {R : α → α → Prop} (ha : ∀ x y, R x y → ¬ R y x) : ∀ {l m : List α}, l.Perm m → l.Pairwise R → m.Pairwise R → l = m := by
  intro l
  induction l with
  | nil => intro m h _ _; exact (h.nil_eq)
  | cons a l ih =>
    intro m h hl hm
    cases m with
    | nil => exact absurd h.symm.nil_eq (by simp)
    | cons b m =>
      have hl' := List.pairwise_cons.1 hl
      have hm' := List.pairwise_cons.1 hm
      have hab : a = b := by
        rcases List.mem_cons.1 (h.mem_iff.1 (List.mem_cons_self ..)) with h1 | h1
        · exact h1
        · rcases List.mem_cons.1 (h.mem_iff.2 (List.mem_cons_self ..)) with h2 | h2
          · exact h2.symm
          · exact absurd (hm'.1 a h1) (ha _ _ (hl'.1 b h2))
      subst hab
      rw [ih ((List.perm_cons a).1 h) hl'.2 hm'.2]
theorem sch_perm {n r : Nat} (h : okN n r = true) : (rawS n r (evN n / 2 - 1)).Perm (schS n r) := by
  unfold okN at h
  simp only [Bool.and_eq_true] at h
  exact (List.isPerm_iff.1 h.1.1).map D.of
theorem sch_up {n r : Nat} (h : okN n r = true) : (schS n r).Pairwise fun x y => min x.a x.b < min y.a y.b := by
  unfold okN at h
  simp only [Bool.and_eq_true] at h
  exact upB_pw _ h.1.2
theorem sch_in {n r : Nat} (h : okN n r = true) : ∀ d ∈ schS n r, 0 ≤ d.a ∧ d.a < n ∧ 0 ≤ d.b ∧ d.b < n ∧ d.a ≠ d.b := by
  unfold okN at h
  simp only [Bool.and_eq_true, List.all_eq_true] at h
  intro d hd
  obtain ⟨e, he, rfl⟩ := List.mem_map.1 hd
  have h1 := h.2 e he
  simp only [Nat.blt_eq, Bool.not_eq_true', Bool.not_eq_eq_eq_not, Bool.not_true] at h1
  have h2 : e.1 ≠ e.2 := fun e3 => by have := h1.2; rw [e3] at this; simp at this
  unfold D.of
  simp only
  omega
/-- What is a permutation of the drawn up, sorted, is the schedule. -/
theorem sch_of {n r : Nat} (h : okN n r = true) {d d' : Array D} (hd : d.toList = rawS n r (evN n / 2 - 1)) (hp : PermIn 0 d.size d d') (hs : SortedIn (ltOf cmpD) 0 d.size d') : d'.toList = schS n r := by
  obtain ⟨hsz, _, hpm⟩ := hp
  have hperm : d'.toList.Perm (schS n r) := by
    refine List.Perm.trans ?_ (sch_perm h)
    rw [← hd]
    rw [show d'.extract 0 d.size = d' by rw [← hsz]; exact Array.extract_size .., Array.extract_size] at hpm
    exact hpm
  refine perm_eqG (R := fun x y : D => min x.a x.b < min y.a y.b) (fun x y h1 h2 => by omega) hperm ?_ (sch_up h)
  have hnd : (d'.toList.map fun x : D => min x.a x.b).Nodup := by
    refine (hperm.map _).nodup_iff.2 ?_
    rw [List.Nodup, List.pairwise_map]
    exact (sch_up h).imp fun h1 e => by omega
  rw [List.Nodup, List.pairwise_map, List.pairwise_iff_getElem] at hnd
  rw [List.pairwise_iff_getElem]
  intro i j hi hj hij
  have h1 := hs i j (Nat.zero_le _) hij (by rw [← hsz]; simpa using hj)
  rw [cmpD_lt, decide_eq_false_iff_not] at h1
  have e1 : d'[i]! = d'.toList[i] := by rw [getElem!_pos d' i (by simpa using hi)]; simp
  have e2 : d'[j]! = d'.toList[j] := by rw [getElem!_pos d' j (by simpa using hj)]; simp
  rw [e1, e2] at h1
  have h2 := hnd i j hi hj hij
  omega
end Go.Proofs.Ytekbjlihpmjlfaa
