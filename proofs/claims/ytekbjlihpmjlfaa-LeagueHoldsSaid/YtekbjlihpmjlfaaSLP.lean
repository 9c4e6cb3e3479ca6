/-
  LeagueSchedules: the law's own table of a round, in plain words.
-/
import Derived.Test.YtekbjlihpmjlfaaKnown
set_option linter.unusedSimpArgs false
set_option linter.unusedVariables false
namespace Go.Proofs.Ytekbjlihpmjlfaa
open Go.RowKit

/-- The table 'with' of a round after k steps. -/
def tabW (n r : Nat) : Nat → List Nat
  | 0 => ((List.replicate (evN n) 0).set (evN n - 1) r).set r (evN n - 1)
  | k + 1 => ((tabW n r k).set ((r + (k + 1)) % (evN n - 1)) ((r + (evN n - 1) - (k + 1)) % (evN n - 1))).set ((r + (evN n - 1) - (k + 1)) % (evN n - 1)) ((r + (k + 1)) % (evN n - 1))
theorem tabW_len (n r k : Nat) : (tabW n r k).length = evN n := by
  induction k with
  | zero => simp [tabW]
  | succ k ih => simp only [tabW, List.length_set, ih]
theorem tabW_all : ∀ n, n < 41 → 2 ≤ n → ∀ r, r < evN n - 1 → tabW n r (evN n / 2 - 1) = (List.range (evN n)).map (parN n r) := by decide +kernel
def natI (l : List Nat) : List Int := l.map fun k : Nat => (k : Int)
theorem natI_set (l : List Nat) (k v : Nat) : (ics (natI l)).set k (.int .i64 v) = ics (natI (l.set k v)) := by
  unfold ics natI
  rw [List.map_set, List.map_set]
theorem natI_at {l : List Nat} {k v : Nat} (h : l[k]? = some v) : (ics (natI l))[k]? = some (.int .i64 v) := by
  unfold ics natI
  rw [List.getElem?_map, List.getElem?_map, h]
  rfl
/-- The list of a round up to a player. -/
def lW (n r a : Nat) : List D := ((List.range a).filterMap (duelOf n r)).map D.of
theorem lW_skip {n r a : Nat} (h : parN n r a < a ∨ n ≤ parN n r a) : lW n r (a + 1) = lW n r a := by
  unfold lW
  rw [List.range_succ, List.filterMap_append]
  simp [duelOf, h]
theorem lW_more {n r a : Nat} (h : ¬ (parN n r a < a ∨ n ≤ parN n r a)) : lW n r (a + 1) = lW n r a ++ [D.of (if (a + parN n r a) % 2 = 0 then (a, parN n r a) else (parN n r a, a))] := by
  unfold lW
  rw [List.range_succ, List.filterMap_append]
  simp [duelOf, h]
theorem lW_len (n r a : Nat) : (lW n r a).length ≤ a := by
  unfold lW
  rw [List.length_map]
  refine Nat.le_trans (List.length_filterMap_le _ _) ?_
  rw [List.length_range]
  exact Nat.le_refl _
theorem lW_all (n r : Nat) : lW n r n = schS n r := rfl
theorem mod_any (x m : Int) (w : World) (hm : 1 ≤ m ∧ m ≤ 1000) (hx : -1000 ≤ x ∧ x ≤ 1000) : Calls Try.prog 19 #[.int .i64 x, .int .i64 m] w fun e w' => e = .returned (.int .i64 (x % m)) ∧ w = w' := by
  have b1 : x.tmod m = x % m ∨ (x.tmod m = x % m - m ∧ 0 < x % m) := by
    rcases Int.lt_or_le x 0 with h | h
    · by_cases hd : m ∣ x
      · exact .inl (by rw [Int.emod_eq_zero_of_dvd hd, Int.tmod_eq_zero_of_dvd hd])
      · refine .inr ⟨?_, ?_⟩
        · rw [Int.tmod_eq_emod]
          rw [if_neg (by intro h2; rcases h2 with h2 | h2 <;> first | omega | exact hd h2)]
          have : (m.natAbs : Int) = m := by omega
          rw [this]
        · have h1 := Int.emod_nonneg x (show m ≠ 0 by omega)
          have h2 : x % m ≠ 0 := fun e => hd (Int.dvd_of_emod_eq_zero e)
          have h3 : (0 : Int) ≤ x % m := h1
          omega
    · exact .inl (Int.tmod_eq_emod_of_nonneg h)
  have h1 : 0 ≤ x % m := Int.emod_nonneg x (by omega)
  have h2 : x % m < m := Int.emod_lt_of_pos x (by omega)
  have e2 : (x.tmod m + m).tmod m = x % m := by
    rcases b1 with e | ⟨e, h3⟩
    · rw [e, Int.tmod_eq_emod_of_nonneg (by omega)]
      show (x % m + m) % m = _
      rw [Int.add_emod_right]
      exact Int.emod_eq_of_lt h1 h2
    · rw [e, show x % m - m + m = x % m by omega, Int.tmod_eq_emod_of_nonneg h1]
      exact Int.emod_eq_of_lt h1 h2
  obtain ⟨q, hq⟩ : ∃ q, x.tmod m = q := ⟨_, rfl⟩
  have b3 : -1000 ≤ q ∧ q ≤ 1000 := by rcases b1 with e | ⟨e, _⟩ <;> omega
  obtain ⟨b4, b5⟩ := b3
  obtain ⟨hm1, hm2⟩ := hm
  rw [hq] at e2
  have hm0 : (m == 0) = false := by rw [beq_eq_false_iff_ne]; omega
  clear b1
  go_enter Try.func19, Try.ntmps19
  go_wp2
  go_ret
  first
    | exact ⟨rfl, rfl⟩
    | (rw [e2]; exact ⟨rfl, rfl⟩)
end Go.Proofs.Ytekbjlihpmjlfaa
