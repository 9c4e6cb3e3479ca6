/-
  The plain law of replay: numbers, records, what is read.
-/
import Derived.Test.YtpbbemmjodegkaaGreatDoorMem
namespace Go.Proofs.YtpbbemmjodegkaaGreatDoor

/-- A move's numbers. -/
structure MoveV where
  p : Int
  why : Int
  k : Int
  id : Int
  to : Int
  at_ : Int
deriving DecidableEq
def MoveV.cells (m : MoveV) : List Value := [.int .i64 m.p, .int .i64 m.why, .int .i64 m.k, .int .i64 m.id, .int .i64 m.to, .int .u64 m.at_]
def keptB (m : MoveV) : Bool := decide (0 ≤ m.p ∧ m.p ≤ 1 ∧ 1 ≤ m.why ∧ m.why ≤ 5 ∧ 0 ≤ m.k ∧ m.k ≤ 8 ∧ 0 ≤ m.id ∧ m.id ≤ 65535 ∧ 0 ≤ m.to ∧ m.to ≤ 65535)
theorem kept_of {m : MoveV} (h : keptB m = true) : 0 ≤ m.p ∧ m.p ≤ 1 ∧ 1 ≤ m.why ∧ m.why ≤ 5 ∧ 0 ≤ m.k ∧ m.k ≤ 8 ∧ 0 ≤ m.id ∧ m.id ≤ 65535 ∧ 0 ≤ m.to ∧ m.to ≤ 65535 := by
  simpa [keptB] using h

/-! ### Numbers in groups of seven bits -/
def numF : Nat → Nat → List Int
  | 0, n => [(n : Int)]
  | f + 1, n => if n < 128 then [(n : Int)] else ((n % 128 + 128 : Nat) : Int) :: numF f (n / 128)
def numS (n : Nat) : List Int := numF n n
theorem numF_enough : ∀ (f g n : Nat), n ≤ f → n ≤ g → numF f n = numF g n := by
  intro f
  induction f with
  | zero =>
    intro g n h _
    obtain rfl : n = 0 := by omega
    cases g <;> simp [numF]
  | succ f ih =>
    intro g n h hg
    cases g with
    | zero =>
      obtain rfl : n = 0 := by omega
      simp [numF]
    | succ g =>
      simp only [numF]
      split
      · rfl
      · rw [ih g (n / 128) (by omega) (by omega)]
theorem numS_lt {n : Nat} (h : n < 128) : numS n = [(n : Int)] := by
  unfold numS
  cases n with
  | zero => rfl
  | succ n => simp only [numF, if_pos h]
theorem numS_ge {n : Nat} (h : 128 ≤ n) : numS n = ((n % 128 + 128 : Nat) : Int) :: numS (n / 128) := by
  unfold numS
  obtain ⟨k, rfl⟩ : ∃ k, n = k + 1 := ⟨n - 1, by omega⟩
  rw [numF, if_neg (by omega), numF_enough k ((k + 1) / 128) ((k + 1) / 128) (by omega) (Nat.le_refl _)]
theorem numS_bytes : ∀ n : Nat, IsBytes (numS n) := by
  intro n
  induction n using Nat.strongRecOn with
  | ind n ih =>
    rcases Nat.lt_or_ge n 128 with h | h
    · rw [numS_lt h]
      intro x hx
      rw [List.mem_singleton] at hx
      omega
    · rw [numS_ge h]
      intro x hx
      rcases List.mem_cons.1 hx with rfl | hx
      · omega
      · exact ih _ (by omega) x hx
theorem numS_pos (n : Nat) : 1 ≤ (numS n).length := by
  rcases Nat.lt_or_ge n 128 with h | h
  · rw [numS_lt h]; simp
  · rw [numS_ge h]; simp
theorem numS_len : ∀ (k n : Nat), n < 128 ^ (k + 1) → (numS n).length ≤ k + 1 := by
  intro k
  induction k with
  | zero =>
    intro n h
    rw [numS_lt (by omega)]
    simp
  | succ k ih =>
    intro n h
    rcases Nat.lt_or_ge n 128 with h0 | h0
    · rw [numS_lt h0]; simp
    · rw [numS_ge h0]
      have := ih (n / 128) (by rw [Nat.div_lt_iff_lt_mul (by omega), ← Nat.pow_succ]; exact h)
      simp only [List.length_cons]
      omega
theorem numS_len10 {n : Nat} (h : n < 2 ^ 64) : (numS n).length ≤ 10 := numS_len 9 n (Nat.lt_trans h (by decide))

/-- The number that bytes begin with, and how many bytes it has: what 'get' does. -/
def getL : Nat → Nat → Nat → List Int → Nat × Nat
  | 0, _, _, _ => (0, 0)
  | _ + 1, _, _, [] => (0, 0)
  | f + 1, i, n, x :: xs => if (i = 9 ∧ 1 < x) ∨ (0 < i ∧ x = 0) then (0, 0) else if x < 128 then (n + x.toNat * 128 ^ i, i + 1) else getL f (i + 1) (n + (x.toNat % 128) * 128 ^ i) xs
def getS (xs : List Int) : Nat × Nat := getL 10 0 0 xs
/-- The same as the law reads it. -/
def looseL : Nat → Nat → Nat → List Int → Nat × Nat
  | 0, j, n, _ => (n, j)
  | _ + 1, j, n, [] => (n, j)
  | f + 1, j, n, x :: xs => if x < 128 then ((n + x.toNat % 128 * 128 ^ j) % 2 ^ 64, j + 1) else looseL f (j + 1) ((n + x.toNat % 128 * 128 ^ j) % 2 ^ 64) xs
def looseS (xs : List Int) : Nat × Nat := looseL 10 0 0 xs

theorem getL_num (ys : List Int) : ∀ (m i n : Nat), i ≤ 9 → n + m * 128 ^ i < 2 ^ 64 → (0 < i → 0 < m) → getL (10 - i) i n (numS m ++ ys) = (n + m * 128 ^ i, i + (numS m).length) := by
  intro m
  induction m using Nat.strongRecOn with
  | ind m ih =>
    intro i n hi hb hp
    obtain ⟨f, hf⟩ : ∃ f, 10 - i = f + 1 := ⟨9 - i, by omega⟩
    rw [hf]
    rcases Nat.lt_or_ge m 128 with h | h
    · rw [numS_lt h]
      simp only [List.cons_append, List.nil_append, getL]
      rw [if_neg, if_pos (by omega)]
      · simp
      · rintro (⟨rfl, h1⟩ | ⟨h1, h2⟩)
        · have : m * 128 ^ 9 < 2 ^ 64 := by omega
          have h2 : (2 : Nat) ^ 64 = 2 * 128 ^ 9 := by decide
          rw [h2] at this
          have := Nat.lt_of_mul_lt_mul_right this
          omega
        · have := hp h1
          omega
    · rw [numS_ge h]
      have hi9 : i ≠ 9 := by
        rintro rfl
        have : m * 128 ^ 9 < 2 ^ 64 := by omega
        have h2 : (2 : Nat) ^ 64 = 2 * 128 ^ 9 := by decide
        rw [h2] at this
        have := Nat.lt_of_mul_lt_mul_right this
        omega
      have hsplit : m * 128 ^ i = (m % 128) * 128 ^ i + (m / 128) * 128 ^ (i + 1) := by
        rw [Nat.pow_succ, Nat.mul_comm (128 ^ i) 128, ← Nat.mul_assoc, ← Nat.add_mul]
        congr 1
        omega
      simp only [List.cons_append, getL]
      rw [if_neg, if_neg (by omega)]
      · have hx : ((((m % 128 + 128 : Nat) : Int)).toNat % 128) = m % 128 := by omega
        rw [hx]
        have h1 := ih (m / 128) (by omega) (i + 1) (n + m % 128 * 128 ^ i) (by omega) (by rw [Nat.add_assoc, ← hsplit]; exact hb) (fun _ => by omega)
        rw [show 10 - (i + 1) = f by omega] at h1
        rw [h1, Nat.add_assoc, ← hsplit]
        simp only [List.length_cons, Prod.mk.injEq, true_and]
        omega
      · rintro (⟨h1, _⟩ | ⟨_, h2⟩)
        · exact hi9 h1
        · omega
theorem getS_num {n : Nat} (h : n < 2 ^ 64) (ys : List Int) : getS (numS n ++ ys) = (n, (numS n).length) := by
  have := getL_num ys n 0 0 (by omega) (by simpa using h) (fun h => absurd h (by omega))
  unfold getS
  simpa using this

theorem looseL_num (ys : List Int) : ∀ (m i n : Nat), i ≤ 9 → n + m * 128 ^ i < 2 ^ 64 → (0 < i → 0 < m) → looseL (10 - i) i n (numS m ++ ys) = (n + m * 128 ^ i, i + (numS m).length) := by
  intro m
  induction m using Nat.strongRecOn with
  | ind m ih =>
    intro i n hi hb hp
    obtain ⟨f, hf⟩ : ∃ f, 10 - i = f + 1 := ⟨9 - i, by omega⟩
    rw [hf]
    rcases Nat.lt_or_ge m 128 with h | h
    · rw [numS_lt h]
      simp only [List.cons_append, List.nil_append, looseL]
      rw [if_pos (by omega)]
      have hx : ((m : Int).toNat % 128) = m := by omega
      rw [hx, Nat.mod_eq_of_lt hb]
      simp
    · rw [numS_ge h]
      have hi9 : i ≠ 9 := by
        rintro rfl
        have : m * 128 ^ 9 < 2 ^ 64 := by omega
        have h2 : (2 : Nat) ^ 64 = 2 * 128 ^ 9 := by decide
        rw [h2] at this
        have := Nat.lt_of_mul_lt_mul_right this
        omega
      have hsplit : m * 128 ^ i = (m % 128) * 128 ^ i + (m / 128) * 128 ^ (i + 1) := by
        rw [Nat.pow_succ, Nat.mul_comm (128 ^ i) 128, ← Nat.mul_assoc, ← Nat.add_mul]
        congr 1
        omega
      simp only [List.cons_append, looseL]
      rw [if_neg (by omega)]
      have hx : ((((m % 128 + 128 : Nat) : Int)).toNat % 128) = m % 128 := by omega
      rw [hx, Nat.mod_eq_of_lt (by omega : n + m % 128 * 128 ^ i < 2 ^ 64)]
      have h1 := ih (m / 128) (by omega) (i + 1) (n + m % 128 * 128 ^ i) (by omega) (by rw [Nat.add_assoc, ← hsplit]; exact hb) (fun _ => by omega)
      rw [show 10 - (i + 1) = f by omega] at h1
      rw [h1, Nat.add_assoc, ← hsplit]
      simp only [List.length_cons, Prod.mk.injEq, true_and]
      omega
theorem looseS_num {n : Nat} (h : n < 2 ^ 64) (ys : List Int) : looseS (numS n ++ ys) = (n, (numS n).length) := by
  have := looseL_num ys n 0 0 (by omega) (by simpa using h) (fun h => absurd h (by omega))
  unfold looseS
  simpa using this
theorem getL_back : ∀ (f i n : Nat) (xs : List Int), IsBytes xs → f + i = 10 → n < 128 ^ i → (getL f i n xs).2 ≠ 0 →
    ∃ (m : Nat) (ys : List Int), xs = numS m ++ ys ∧ (getL f i n xs).2 = i + (numS m).length ∧ (getL f i n xs).1 = n + m * 128 ^ i ∧ (0 < i → 0 < m) ∧ n + m * 128 ^ i < 2 ^ 64 := by
  intro f
  induction f with
  | zero => intro i n xs _ _ _ h; exact absurd rfl h
  | succ f ih =>
    intro i n xs hx hf hn h
    cases xs with
    | nil => exact absurd rfl h
    | cons x xs =>
      have hb := hx x (List.mem_cons_self ..)
      simp only [getL] at h ⊢
      by_cases h0 : (i = 9 ∧ 1 < x) ∨ (0 < i ∧ x = 0)
      · rw [if_pos h0] at h
        exact absurd rfl h
      · rw [if_neg h0] at h ⊢
        have hsm : ∀ y : Nat, y < 128 → (i = 9 → y ≤ 1) → n + y * 128 ^ i < 2 ^ 64 := by
          intro y hy h9
          by_cases h9' : i = 9
          · subst h9'
            have := h9 rfl
            have h3 : y * 128 ^ 9 ≤ 1 * 128 ^ 9 := Nat.mul_le_mul_right _ this
            have h2 : (2 : Nat) ^ 64 = 2 * 128 ^ 9 := by decide
            omega
          · have h3 : (y + 1) * 128 ^ i ≤ 128 * 128 ^ i := Nat.mul_le_mul_right _ (by omega)
            have h4 : 128 * 128 ^ i = 128 ^ (i + 1) := by rw [Nat.pow_succ, Nat.mul_comm]
            have h5 : (128 : Nat) ^ (i + 1) ≤ 128 ^ 9 := Nat.pow_le_pow_right (by omega) (by omega)
            have h2 : (2 : Nat) ^ 64 = 2 * 128 ^ 9 := by decide
            rw [Nat.add_mul] at h3
            omega
        by_cases h1 : x < 128
        · rw [if_pos h1] at h ⊢
          obtain ⟨y, rfl⟩ : ∃ y : Nat, x = (y : Int) := ⟨x.toNat, by omega⟩
          refine ⟨y, xs, by rw [numS_lt (by omega)]; rfl, by rw [numS_lt (by omega)]; rfl, by simp, fun hi => ?_, ?_⟩
          · rcases Nat.eq_zero_or_pos y with hy | hy
            · subst hy
              exact absurd (.inr ⟨hi, rfl⟩) h0
            · exact hy
          · exact hsm y (by omega) (fun h9 => by
              rcases Nat.lt_or_ge 1 y with hy | hy
              · exact absurd (.inl ⟨h9, by omega⟩) h0
              · exact hy)
        · rw [if_neg h1] at h ⊢
          have hi9 : i ≠ 9 := by
            rintro rfl
            exact h0 (.inl ⟨rfl, by omega⟩)
          have hn2 : n + x.toNat % 128 * 128 ^ i < 128 ^ (i + 1) := by
            have h3 : (x.toNat % 128 + 1) * 128 ^ i ≤ 128 * 128 ^ i := Nat.mul_le_mul_right _ (by omega)
            rw [Nat.pow_succ, Nat.mul_comm _ 128]
            rw [Nat.add_mul] at h3
            omega
          obtain ⟨m, ys, e1, e2, e3, e4, e5⟩ := ih (i + 1) _ xs (fun z hz => hx z (List.mem_cons_of_mem _ hz)) (by omega) hn2 h
          have hm : 0 < m := e4 (by omega)
          have hd : (m * 128 + x.toNat % 128) / 128 = m := by omega
          have hr : (m * 128 + x.toNat % 128) % 128 = x.toNat % 128 := by omega
          have hs : n + x.toNat % 128 * 128 ^ i + m * 128 ^ (i + 1) = n + (m * 128 + x.toNat % 128) * 128 ^ i := by
            rw [Nat.pow_succ, Nat.mul_comm (128 ^ i) 128, ← Nat.mul_assoc, Nat.add_mul]
            omega
          refine ⟨m * 128 + x.toNat % 128, ys, ?_, ?_, ?_, fun _ => by omega, ?_⟩
          · have h128 : 128 ≤ m * 128 + x.toNat % 128 := by omega
            rw [numS_ge h128, hd, hr, e1]
            simp only [List.cons_append, List.cons.injEq, and_true]
            omega
          · rw [e2]
            have h128 : 128 ≤ m * 128 + x.toNat % 128 := by omega
            rw [numS_ge h128, hd]
            simp only [List.length_cons]
            omega
          · rw [e3, hs]
          · rw [← hs]; exact e5
theorem getS_back {xs : List Int} (hx : IsBytes xs) (h : (getS xs).2 ≠ 0) : ∃ ys, xs = numS (getS xs).1 ++ ys ∧ (getS xs).2 = (numS (getS xs).1).length ∧ (getS xs).1 < 2 ^ 64 := by
  obtain ⟨m, ys, e1, e2, e3, _, e5⟩ := getL_back 10 0 0 xs hx rfl (by decide) h
  have e : (getS xs).1 = m := by unfold getS; rw [e3]; simp
  rw [e]
  exact ⟨ys, e1, by unfold getS; rw [e2]; simp, by simpa using e5⟩
end Go.Proofs.YtpbbemmjodegkaaGreatDoor
