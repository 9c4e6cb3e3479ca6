/-
  Texts: Plain, Recs.
-/
import Derived.Test.YtpbbemmjodegkaaDoorXk1
namespace Go.Proofs.YtpbbemmjodegkaaDoor

structure MoveV where
  p : Int
  why : Int
  k : Int
  id : Int
  to : Int
  at_ : Int
deriving DecidableEq
def MoveV.cells (m : MoveV) : List Value := [.int .i64 m.p, .int .i64 m.why, .int .i64 m.k, .int .i64 m.id, .int .i64 m.to, .int .u64 m.at_]
def keptB (m : MoveV) : Bool := decide (0 ≤ m.p ∧ m.p ≤ 1 ∧ 1 ≤ m.why ∧ m.why ≤ 5 ∧ 0 ≤ m.k ∧ m.k ≤ 8 ∧ 0 ≤ m.id ∧ m.id ≤ 65535 ∧ 0 ≤ m.to ∧ m.to ≤ 65535)
theorem kept_of {m : MoveV} (h : keptB m = true) : 0 ≤ m.p ∧ m.p ≤ 1 ∧ 1 ≤ m.why ∧ m.why ≤ 5 ∧ 0 ≤ m.k ∧ m.k ≤ 8 ∧ 0 ≤ m.id ∧ m.id ≤ 65535 ∧ 0 ≤ m.to ∧ m.to ≤ 65535 := by
  simpa [keptB] using h

/-! ### Numbers in groups of seven bits -/
def numF : Nat → Nat → List Int
  | 0, n => [(n : Int)]
  | f + 1, n => if n < 128 then [(n : Int)] else ((n % 128 + 128 : Nat) : Int) :: numF f (n / 128)
def numS (n : Nat) : List Int := numF n n
theorem numF_enough : ∀ (f g n : Nat), n ≤ f → n ≤ g → numF f n = numF g n := by
  intro f
  induction f with
  | zero =>
    intro g n h _
    obtain rfl : n = 0 := by omega
    cases g <;> simp [numF]
  | succ f ih =>
    intro g n h hg
    cases g with
    | zero =>
      obtain rfl : n = 0 := by omega
      simp [numF]
    | succ g =>
      simp only [numF]
      split
      · rfl
      · rw [ih g (n / 128) (by omega) (by omega)]
theorem numS_lt {n : Nat} (h : n < 128) : numS n = [(n : Int)] := by
  unfold numS
  cases n with
  | zero => rfl
  | succ n => simp only [numF, if_pos h]
theorem numS_ge {n : Nat} (h : 128 ≤ n) : numS n = ((n % 128 + 128 : Nat) : Int) :: numS (n / 128) := by
  unfold numS
  obtain ⟨k, rfl⟩ : ∃ k, n = k + 1 := ⟨n - 1, by omega⟩
  rw [numF, if_neg (by omega), numF_enough k ((k + 1) / 128) ((k + 1) / 128) (by omega) (Nat.le_refl _)]
theorem numS_bytes : ∀ n : Nat, IsBytes (numS n) := by
  intro n
  induction n using Nat.strongRecOn with
  | ind n ih =>
    rcases Nat.lt_or_ge n 128 with h | h
    · rw [numS_lt h]
      intro x hx
      rw [List.mem_singleton] at hx
      omega
    · rw [numS_ge h]
      intro x hx
      rcases List.mem_cons.1 hx with rfl | hx
      · omega
      · exact ih _ (by omega) x hx
theorem numS_pos (n : Nat) : 1 ≤ (numS n).length := by
  rcases Nat.lt_or_ge n 128 with h | h
  · rw [numS_lt h]; simp
  · rw [numS_ge h]; simp
theorem numS_len : ∀ (k n : Nat), n < 128 ^ (k + 1) → (numS n).length ≤ k + 1 := by
  intro k
  induction k with
  | zero =>
    intro n h
    rw [numS_lt (by omega)]
    simp
  | succ k ih =>
    intro n h
    rcases Nat.lt_or_ge n 128 with h0 | h0
    · rw [numS_lt h0]; simp
    · rw [numS_ge h0]
      have := ih (n / 128) (by rw [Nat.div_lt_iff_lt_mul (by omega), ← Nat.pow_succ]; exact h)
      simp only [List.length_cons]
      omega
theorem numS_len10 {n : Nat} (h : n < 2 ^ 64) : (numS n).length ≤ 10 := numS_len 9 n (Nat.lt_trans h (by decide))

def getL : Nat → Nat → Nat → List Int → Nat × Nat
  | 0, _, _, _ => (0, 0)
  | _ + 1, _, _, [] => (0, 0)
  | f + 1, i, n, x :: xs => if (i = 9 ∧ 1 < x) ∨ (0 < i ∧ x = 0) then (0, 0) else if x < 128 then (n + x.toNat * 128 ^ i, i + 1) else getL f (i + 1) (n + (x.toNat % 128) * 128 ^ i) xs
def getS (xs : List Int) : Nat × Nat := getL 10 0 0 xs
def looseL : Nat → Nat → Nat → List Int → Nat × Nat
  | 0, j, n, _ => (n, j)
  | _ + 1, j, n, [] => (n, j)
  | f + 1, j, n, x :: xs => if x < 128 then ((n + x.toNat % 128 * 128 ^ j) % 2 ^ 64, j + 1) else looseL f (j + 1) ((n + x.toNat % 128 * 128 ^ j) % 2 ^ 64) xs
def looseS (xs : List Int) : Nat × Nat := looseL 10 0 0 xs

theorem getL_num (ys : List Int) : ∀ (m i n : Nat), i ≤ 9 → n + m * 128 ^ i < 2 ^ 64 → (0 < i → 0 < m) → getL (10 - i) i n (numS m ++ ys) = (n + m * 128 ^ i, i + (numS m).length) := by
  intro m
  induction m using Nat.strongRecOn with
  | ind m ih =>
    intro i n hi hb hp
    obtain ⟨f, hf⟩ : ∃ f, 10 - i = f + 1 := ⟨9 - i, by omega⟩
    rw [hf]
    rcases Nat.lt_or_ge m 128 with h | h
    · rw [numS_lt h]
      simp only [List.cons_append, List.nil_append, getL]
      rw [if_neg, if_pos (by omega)]
      · simp
      · rintro (⟨rfl, h1⟩ | ⟨h1, h2⟩)
        · have : m * 128 ^ 9 < 2 ^ 64 := by omega
          have h2 : (2 : Nat) ^ 64 = 2 * 128 ^ 9 := by decide
          rw [h2] at this
          have := Nat.lt_of_mul_lt_mul_right this
          omega
        · have := hp h1
          omega
    · rw [numS_ge h]
      have hi9 : i ≠ 9 := by
        rintro rfl
        have : m * 128 ^ 9 < 2 ^ 64 := by omega
        have h2 : (2 : Nat) ^ 64 = 2 * 128 ^ 9 := by decide
        rw [h2] at this
        have := Nat.lt_of_mul_lt_mul_right this
        omega
      have hsplit : m * 128 ^ i = (m % 128) * 128 ^ i + (m / 128) * 128 ^ (i + 1) := by
        rw [Nat.pow_succ, Nat.mul_comm (128 ^ i) 128, ← Nat.mul_assoc, ← Nat.add_mul]
        congr 1
        omega
      simp only [List.cons_append, getL]
      rw [if_neg, if_neg (by omega)]
      · have hx : ((((m % 128 + 128 : Nat) : Int)).toNat % 128) = m % 128 := by omega
        rw [hx]
        have h1 := ih (m / 128) (by omega) (i + 1) (n + m % 128 * 128 ^ i) (by omega) (by rw [Nat.add_assoc, ← hsplit]; exact hb) (fun _ => by omega)
        rw [show 10 - (i + 1) = f by omega] at h1
        rw [h1, Nat.add_assoc, ← hsplit]
        simp only [List.length_cons, Prod.mk.injEq, true_and]
        omega
      · rintro (⟨h1, _⟩ | ⟨_, h2⟩)
        · exact hi9 h1
        · omega
theorem getS_num {n : Nat} (h : n < 2 ^ 64) (ys : List Int) : getS (numS n ++ ys) = (n, (numS n).length) := by
  have := getL_num ys n 0 0 (by omega) (by simpa using h) (fun h => absurd h (by omega))
  unfold getS
  simpa using this

theorem looseL_num (ys : List Int) : ∀ (m i n : Nat), i ≤ 9 → n + m * 128 ^ i < 2 ^ 64 → (0 < i → 0 < m) → looseL (10 - i) i n (numS m ++ ys) = (n + m * 128 ^ i, i + (numS m).length) := by
  intro m
  induction m using Nat.strongRecOn with
  | ind m ih =>
    intro i n hi hb hp
    obtain ⟨f, hf⟩ : ∃ f, 10 - i = f + 1 := ⟨9 - i, by omega⟩
    rw [hf]
    rcases Nat.lt_or_ge m 128 with h | h
    · rw [numS_lt h]
      simp only [List.cons_append, List.nil_append, looseL]
      rw [if_pos (by omega)]
      have hx : ((m : Int).toNat % 128) = m := by omega
      rw [hx, Nat.mod_eq_of_lt hb]
      simp
    · rw [numS_ge h]
      have hi9 : i ≠ 9 := by
        rintro rfl
        have : m * 128 ^ 9 < 2 ^ 64 := by omega
        have h2 : (2 : Nat) ^ 64 = 2 * 128 ^ 9 := by decide
        rw [h2] at this
        have := Nat.lt_of_mul_lt_mul_right this
        omega
      have hsplit : m * 128 ^ i = (m % 128) * 128 ^ i + (m / 128) * 128 ^ (i + 1) := by
        rw [Nat.pow_succ, Nat.mul_comm (128 ^ i) 128, ← Nat.mul_assoc, ← Nat.add_mul]
        congr 1
        omega
      simp only [List.cons_append, looseL]
      rw [if_neg (by omega)]
      have hx : ((((m % 128 + 128 : Nat) : Int)).toNat % 128) = m % 128 := by omega
      rw [hx, Nat.mod_eq_of_lt (by omega : n + m % 128 * 128 ^ i < 2 ^ 64)]
      have h1 := ih (m / 128) (by omega) (i + 1) (n + m % 128 * 128 ^ i) (by omega) (by rw [Nat.add_assoc, ← hsplit]; exact hb) (fun _ => by omega)
      rw [show 10 - (i + 1) = f by omega] at h1
      rw [h1, Nat.add_assoc, ← hsplit]
      simp only [List.length_cons, Prod.mk.injEq, true_and]
      omega
theorem looseS_num {n : Nat} (h : n < 2 ^ 64) (ys : List Int) : looseS (numS n ++ ys) = (n, (numS n).length) := by
  have := looseL_num ys n 0 0 (by omega) (by simpa using h) (fun h => absurd h (by omega))
  unfold looseS
  simpa using this
theorem getL_back : ∀ (f i n : Nat) (xs : List Int), IsBytes xs → f + i = 10 → n < 128 ^ i → (getL f i n xs).2 ≠ 0 →
    ∃ (m : Nat) (ys : List Int), xs = numS m ++ ys ∧ (getL f i n xs).2 = i + (numS m).length ∧ (getL f i n xs).1 = n + m * 128 ^ i ∧ (0 < i → 0 < m) ∧ n + m * 128 ^ i < 2 ^ 64 := by
  intro f
  induction f with
  | zero => intro i n xs _ _ _ h; exact absurd rfl h
  | succ f ih =>
    intro i n xs hx hf hn h
    cases xs with
    | nil => exact absurd rfl h
    | cons x xs =>
      have hb := hx x (List.mem_cons_self ..)
      simp only [getL] at h ⊢
      by_cases h0 : (i = 9 ∧ 1 < x) ∨ (0 < i ∧ x = 0)
      · rw [if_pos h0] at h
        exact absurd rfl h
      · rw [if_neg h0] at h ⊢
        have hsm : ∀ y : Nat, y < 128 → (i = 9 → y ≤ 1) → n + y * 128 ^ i < 2 ^ 64 := by
          intro y hy h9
          by_cases h9' : i = 9
          · subst h9'
            have := h9 rfl
            have h3 : y * 128 ^ 9 ≤ 1 * 128 ^ 9 := Nat.mul_le_mul_right _ this
            have h2 : (2 : Nat) ^ 64 = 2 * 128 ^ 9 := by decide
            omega
          · have h3 : (y + 1) * 128 ^ i ≤ 128 * 128 ^ i := Nat.mul_le_mul_right _ (by omega)
            have h4 : 128 * 128 ^ i = 128 ^ (i + 1) := by rw [Nat.pow_succ, Nat.mul_comm]
            have h5 : (128 : Nat) ^ (i + 1) ≤ 128 ^ 9 := Nat.pow_le_pow_right (by omega) (by omega)
            have h2 : (2 : Nat) ^ 64 = 2 * 128 ^ 9 := by decide
            rw [Nat.add_mul] at h3
            omega
        by_cases h1 : x < 128
        · rw [if_pos h1] at h ⊢
          obtain ⟨y, rfl⟩ : ∃ y : Nat, x = (y : Int) := ⟨x.toNat, by omega⟩
          refine ⟨y, xs, by rw [numS_lt (by omega)]; rfl, by rw [numS_lt (by omega)]; rfl, by simp, fun hi => ?_, ?_⟩
          · rcases Nat.eq_zero_or_pos y with hy | hy
            · subst hy
              exact absurd (.inr ⟨hi, rfl⟩) h0
            · exact hy
          · exact hsm y (by omega) (fun h9 => by
              rcases Nat.lt_or_ge 1 y with hy | hy
              · exact absurd (.inl ⟨h9, by omega⟩) h0
              · exact hy)
        · rw [if_neg h1] at h ⊢
          have hi9 : i ≠ 9 := by
            rintro rfl
            exact h0 (.inl ⟨rfl, by omega⟩)
          have hn2 : n + x.toNat % 128 * 128 ^ i < 128 ^ (i + 1) := by
            have h3 : (x.toNat % 128 + 1) * 128 ^ i ≤ 128 * 128 ^ i := Nat.mul_le_mul_right _ (by omega)
            rw [Nat.pow_succ, Nat.mul_comm _ 128]
            rw [Nat.add_mul] at h3
            omega
          obtain ⟨m, ys, e1, e2, e3, e4, e5⟩ := ih (i + 1) _ xs (fun z hz => hx z (List.mem_cons_of_mem _ hz)) (by omega) hn2 h
          have hm : 0 < m := e4 (by omega)
          have hd : (m * 128 + x.toNat % 128) / 128 = m := by omega
          have hr : (m * 128 + x.toNat % 128) % 128 = x.toNat % 128 := by omega
          have hs : n + x.toNat % 128 * 128 ^ i + m * 128 ^ (i + 1) = n + (m * 128 + x.toNat % 128) * 128 ^ i := by
            rw [Nat.pow_succ, Nat.mul_comm (128 ^ i) 128, ← Nat.mul_assoc, Nat.add_mul]
            omega
          refine ⟨m * 128 + x.toNat % 128, ys, ?_, ?_, ?_, fun _ => by omega, ?_⟩
          · have h128 : 128 ≤ m * 128 + x.toNat % 128 := by omega
            rw [numS_ge h128, hd, hr, e1]
            simp only [List.cons_append, List.cons.injEq, and_true]
            omega
          · rw [e2]
            have h128 : 128 ≤ m * 128 + x.toNat % 128 := by omega
            rw [numS_ge h128, hd]
            simp only [List.length_cons]
            omega
          · rw [e3, hs]
          · rw [← hs]; exact e5
theorem getS_back {xs : List Int} (hx : IsBytes xs) (h : (getS xs).2 ≠ 0) : ∃ ys, xs = numS (getS xs).1 ++ ys ∧ (getS xs).2 = (numS (getS xs).1).length ∧ (getS xs).1 < 2 ^ 64 := by
  obtain ⟨m, ys, e1, e2, e3, _, e5⟩ := getL_back 10 0 0 xs hx rfl (by decide) h
  have e : (getS xs).1 = m := by unfold getS; rw [e3]; simp
  rw [e]
  exact ⟨ys, e1, by unfold getS; rw [e2]; simp, by simpa using e5⟩
end Go.Proofs.YtpbbemmjodegkaaDoor

namespace Go.Proofs.YtpbbemmjodegkaaDoor

def sumStep (s x : Int) : Int := (s * 31 + x) % 4294967296
def sumS (s : Int) (xs : List Int) : Int := xs.foldl sumStep s
theorem sumS_app (s : Int) (xs ys : List Int) : sumS s (xs ++ ys) = sumS (sumS s xs) ys := List.foldl_append ..
theorem sumStep_bd (s x : Int) : 0 ≤ sumStep s x ∧ sumStep s x ≤ 4294967295 := by unfold sumStep; omega
theorem sumS_bd (xs : List Int) : ∀ s : Int, 0 ≤ s → s ≤ 4294967295 → 0 ≤ sumS s xs ∧ sumS s xs ≤ 4294967295 := by
  induction xs with
  | nil => intro s h0 h1; exact ⟨h0, h1⟩
  | cons x xs ih => intro s _ _; exact ih _ (sumStep_bd s x).1 (sumStep_bd s x).2
theorem sumS_snoc (s : Int) (xs : List Int) (k : Nat) (hk : k < xs.length) : sumS s (xs.take (k + 1)) = sumStep (sumS s (xs.take k)) (nth xs k) := by
  have hg : nth xs k = xs[k]'hk := by simp [nth, List.getD, List.getElem?_eq_getElem hk]
  rw [List.take_succ_eq_append_getElem hk, hg, sumS_app]
  rfl

def be4 (s : Int) : List Int := [s / 16777216, s / 65536 % 256, s / 256 % 256, s % 256]
theorem be4_bytes {s : Int} (h0 : 0 ≤ s) (h1 : s ≤ 4294967295) : IsBytes (be4 s) := by
  intro x hx
  simp only [be4, List.mem_cons, List.not_mem_nil, or_false] at hx
  rcases hx with rfl | rfl | rfl | rfl <;> omega
theorem be4_len (s : Int) : (be4 s).length = 4 := rfl

def hdrS (t : Int) (m : MoveV) : List Int := (m.p + 2 * (m.why - 1)) :: (numS m.k.toNat ++ (numS m.id.toNat ++ (numS m.to.toNat ++ numS (m.at_ - t).toNat)))
def recS (t s : Int) (m : MoveV) : List Int := hdrS t m ++ be4 (sumS s (hdrS t m))
theorem hdr_bytes {t : Int} {m : MoveV} (h : keptB m = true) : IsBytes (hdrS t m) := by
  have := kept_of h
  intro x hx
  unfold hdrS at hx
  rcases List.mem_cons.1 hx with rfl | hx
  · omega
  · rcases List.mem_append.1 hx with hx | hx
    · exact numS_bytes _ x hx
    · rcases List.mem_append.1 hx with hx | hx
      · exact numS_bytes _ x hx
      · rcases List.mem_append.1 hx with hx | hx
        · exact numS_bytes _ x hx
        · exact numS_bytes _ x hx
theorem rec_bytes {t s : Int} {m : MoveV} (h : keptB m = true) (h0 : 0 ≤ s) (h1 : s ≤ 4294967295) : IsBytes (recS t s m) := by
  intro x hx
  rcases List.mem_append.1 hx with hx | hx
  · exact hdr_bytes h x hx
  · exact be4_bytes (sumS_bd _ _ h0 h1).1 (sumS_bd _ _ h0 h1).2 x hx
theorem rec_len (t s : Int) (m : MoveV) : (recS t s m).length = (hdrS t m).length + 4 := by simp [recS, be4_len]
theorem hdr_le {t : Int} {m : MoveV} (h : keptB m = true) (ht : 0 ≤ t) (ha : m.at_ ≤ 18446744073709551615) : (hdrS t m).length ≤ 20 := by
  have hk := kept_of h
  have h1 := numS_len 0 m.k.toNat (by omega)
  have h2 := numS_len 2 m.id.toNat (by omega)
  have h3 := numS_len 2 m.to.toNat (by omega)
  have h4 := numS_len10 (n := (m.at_ - t).toNat) (by omega)
  simp only [hdrS, List.length_cons, List.length_append]
  omega

/-! ### The move that bytes begin with -/
def nextS (t : Int) : List Int → Option MoveV
  | [] => none
  | x :: r0 =>
    if (getS r0).2 = 0 then none else
    if (getS (r0.drop (getS r0).2)).2 = 0 then none else
    if (getS ((r0.drop (getS r0).2).drop (getS (r0.drop (getS r0).2)).2)).2 = 0 then none else
    if (getS (((r0.drop (getS r0).2).drop (getS (r0.drop (getS r0).2)).2).drop (getS ((r0.drop (getS r0).2).drop (getS (r0.drop (getS r0).2)).2)).2)).2 = 0 then none else
    if 65535 < (getS r0).1 ∨ 65535 < (getS (r0.drop (getS r0).2)).1 ∨ 65535 < (getS ((r0.drop (getS r0).2).drop (getS (r0.drop (getS r0).2)).2)).1 ∨
      18446744073709551615 - t < ((getS (((r0.drop (getS r0).2).drop (getS (r0.drop (getS r0).2)).2).drop (getS ((r0.drop (getS r0).2).drop (getS (r0.drop (getS r0).2)).2)).2)).1 : Int) then none else
    some ⟨x % 2, x / 2 + 1, (getS r0).1, (getS (r0.drop (getS r0).2)).1, (getS ((r0.drop (getS r0).2).drop (getS (r0.drop (getS r0).2)).2)).1, t + (getS (((r0.drop (getS r0).2).drop (getS (r0.drop (getS r0).2)).2).drop (getS ((r0.drop (getS r0).2).drop (getS (r0.drop (getS r0).2)).2)).2)).1⟩
def lookS (t : Int) : List Int → Option MoveV
  | [] => none
  | x :: r0 =>
    if 65535 < (looseS r0).1 ∨ 65535 < (looseS (r0.drop (looseS r0).2)).1 ∨ 65535 < (looseS ((r0.drop (looseS r0).2).drop (looseS (r0.drop (looseS r0).2)).2)).1 ∨
      18446744073709551615 - t < ((looseS (((r0.drop (looseS r0).2).drop (looseS (r0.drop (looseS r0).2)).2).drop (looseS ((r0.drop (looseS r0).2).drop (looseS (r0.drop (looseS r0).2)).2)).2)).1 : Int) then none else
    some ⟨x % 2, x / 2 + 1, (looseS r0).1, (looseS (r0.drop (looseS r0).2)).1, (looseS ((r0.drop (looseS r0).2).drop (looseS (r0.drop (looseS r0).2)).2)).1, t + (looseS (((r0.drop (looseS r0).2).drop (looseS (r0.drop (looseS r0).2)).2).drop (looseS ((r0.drop (looseS r0).2).drop (looseS (r0.drop (looseS r0).2)).2)).2)).1⟩

def IsRec (t s : Int) (m : MoveV) (xs : List Int) : Prop := keptB m = true ∧ t ≤ m.at_ ∧ m.at_ ≤ 18446744073709551615 ∧ recS t s m <+: xs

theorem drop_num (n : Nat) (ys : List Int) : (numS n ++ ys).drop (numS n).length = ys := by simp
theorem move_eq {m : MoveV} (h : keptB m = true) : (m.p + 2 * (m.why - 1)) % 2 = m.p ∧ (m.p + 2 * (m.why - 1)) / 2 + 1 = m.why := by
  have := kept_of h
  omega
theorem next_of_rec {t s : Int} {m : MoveV} {xs : List Int} (ht : 0 ≤ t) (h : IsRec t s m xs) : nextS t xs = some m ∧ lookS t xs = some m := by
  obtain ⟨hk, h1, h2, ys, rfl⟩ := h
  have hk' := kept_of hk
  have hm := move_eq hk
  have e0 : recS t s m ++ ys = (m.p + 2 * (m.why - 1)) :: (numS m.k.toNat ++ (numS m.id.toNat ++ (numS m.to.toNat ++ (numS (m.at_ - t).toNat ++ (be4 (sumS s (hdrS t m)) ++ ys))))) := by
    simp [recS, hdrS]
  rw [e0]
  have g1 := fun zs => getS_num (n := m.k.toNat) (by omega) zs
  have g2 := fun zs => getS_num (n := m.id.toNat) (by omega) zs
  have g3 := fun zs => getS_num (n := m.to.toNat) (by omega) zs
  have g4 := fun zs => getS_num (n := (m.at_ - t).toNat) (by omega) zs
  have l1 := fun zs => looseS_num (n := m.k.toNat) (by omega) zs
  have l2 := fun zs => looseS_num (n := m.id.toNat) (by omega) zs
  have l3 := fun zs => looseS_num (n := m.to.toNat) (by omega) zs
  have l4 := fun zs => looseS_num (n := (m.at_ - t).toNat) (by omega) zs
  have p1 := numS_pos m.k.toNat
  have p2 := numS_pos m.id.toNat
  have p3 := numS_pos m.to.toNat
  have p4 := numS_pos (m.at_ - t).toNat
  have hv : (⟨(m.p + 2 * (m.why - 1)) % 2, (m.p + 2 * (m.why - 1)) / 2 + 1, (m.k.toNat : Int), (m.id.toNat : Int), (m.to.toNat : Int), t + ((m.at_ - t).toNat : Int)⟩ : MoveV) = m := by
    obtain ⟨p, why, k, id, to, at_⟩ := m
    simp only [MoveV.mk.injEq]
    simp only at hm hk' h1 h2
    omega
  constructor
  · simp only [nextS, g1, g2, g3, g4, drop_num]
    rw [if_neg (by omega), if_neg (by omega), if_neg (by omega), if_neg (by omega), if_neg (by omega), hv]
  · simp only [lookS, l1, l2, l3, l4, drop_num]
    rw [if_neg (by omega), hv]
theorem next_bd {t : Int} {xs : List Int} {m : MoveV} (h : nextS t xs = some m) : t ≤ m.at_ ∧ m.at_ ≤ 18446744073709551615 := by
  cases xs with
  | nil => cases h
  | cons x r0 =>
    simp only [nextS] at h
    split at h
    · cases h
    split at h
    · cases h
    split at h
    · cases h
    split at h
    · cases h
    split at h
    · cases h
    · rename_i hb
      injection h with h
      subst h
      simp only
      omega
def acc (t s : Int) (xs : List Int) : Option MoveV :=
  match nextS t xs with
  | some m => if keptB m = true ∧ recS t s m <+: xs then some m else none
  | none => none
theorem acc_some {t s : Int} {xs : List Int} {m : MoveV} (h : acc t s xs = some m) : nextS t xs = some m ∧ IsRec t s m xs := by
  unfold acc at h
  split at h
  · rename_i m' hm
    split at h
    · rename_i hc
      injection h with h
      subst h
      have := next_bd hm
      exact ⟨hm, hc.1, this.1, this.2, hc.2⟩
    · cases h
  · cases h
theorem acc_of_rec {t s : Int} {xs : List Int} {m : MoveV} (ht : 0 ≤ t) (h : IsRec t s m xs) : acc t s xs = some m := by
  have hn := (next_of_rec ht h).1
  unfold acc
  rw [hn]
  simp only
  rw [if_pos ⟨h.1, h.2.2.2⟩]
/-! ### The state of a replay -/
structure St where
  key : Int
  last : Int
  sum : Int
  data : List Int
  mv : List MoveV
  ends : List Int
def st0 (key : Int) : St := ⟨key, 0, key, [], [], []⟩
def St.add (q : St) (m : MoveV) : St := ⟨q.key, m.at_, sumS q.sum (hdrS q.last m), q.data ++ recS q.last q.sum m, q.mv ++ [m], q.ends ++ [((q.data ++ recS q.last q.sum m).length : Int)]⟩
structure St.ok (q : St) : Prop where
  key0 : 0 ≤ q.key ∧ q.key ≤ 4294967295
  sum0 : 0 ≤ q.sum ∧ q.sum ≤ 4294967295
  last0 : 0 ≤ q.last ∧ q.last ≤ 18446744073709551615
  bytes : IsBytes q.data
  len : q.data.length ≤ 24 * q.mv.length
  cnt : q.mv.length ≤ 4096
  nil_ : q.mv.length = 0 → q.data = [] ∧ q.sum = q.key ∧ q.last = 0
  cons_ : 0 < q.mv.length → (∃ d, q.data = d ++ be4 q.sum) ∧ (∃ l m, q.mv = l ++ [m] ∧ m.at_ = q.last)
  kept : ∀ m ∈ q.mv, keptB m = true ∧ m.at_ ≤ 18446744073709551615 ∧ 0 ≤ m.at_
  endl : q.ends.length = q.mv.length
theorem st0_ok {key : Int} (h : 0 ≤ key ∧ key ≤ 4294967295) : (st0 key).ok :=
  ⟨h, h, by simp [st0], (fun _ h => by cases h), by simp [st0], by simp [st0], fun _ => ⟨rfl, rfl, rfl⟩, fun h => by simp [st0] at h, (fun _ h => by cases h), rfl⟩
def fits (q : St) (m : MoveV) : Prop := keptB m = true ∧ q.last ≤ m.at_ ∧ m.at_ ≤ 18446744073709551615
theorem St.ok.add {q : St} {m : MoveV} (h : q.ok) (hm : fits q m) (hc : q.mv.length < 4096) : (q.add m).ok := by
  have hl := hdr_le hm.1 h.last0.1 hm.2.2
  have hlo := h.last0
  refine ⟨h.key0, sumS_bd _ _ h.sum0.1 h.sum0.2, ⟨by have := hm.2.1; simp only [St.add]; omega, hm.2.2⟩, fun x hx => ?_, ?_, by simp only [St.add, List.length_append, List.length_singleton]; omega, fun h0 => by simp [St.add] at h0, fun _ => ⟨⟨q.data ++ hdrS q.last m, by simp [St.add, recS]⟩, q.mv, m, rfl, rfl⟩, fun x hx => ?_, by simp [St.add, h.endl]⟩
  · rcases List.mem_append.1 hx with hx | hx
    · exact h.bytes x hx
    · exact rec_bytes hm.1 h.sum0.1 h.sum0.2 x hx
  · have := h.len
    simp only [St.add, List.length_append, List.length_singleton, rec_len]
    omega
  · rcases List.mem_append.1 hx with hx | hx
    · exact h.kept x hx
    · rw [List.mem_singleton] at hx
      subst hx
      exact ⟨hm.1, hm.2.2, by have := hm.2.1; omega⟩
def readF : Nat → St → List Int → St
  | 0, q, _ => q
  | f + 1, q, xs =>
    match acc q.last q.sum xs with
    | some m => if q.mv.length < 4096 then readF f (q.add m) (xs.drop (recS q.last q.sum m).length) else q
    | none => q
def readS (q : St) (xs : List Int) : St := readF (xs.length + 1) q xs
theorem readF_enough : ∀ (f g : Nat) (q : St) (xs : List Int), xs.length < f → xs.length < g → readF f q xs = readF g q xs := by
  intro f
  induction f with
  | zero => intro g q xs h; omega
  | succ f ih =>
    intro g q xs h hg
    obtain ⟨g, rfl⟩ : ∃ k, g = k + 1 := ⟨g - 1, by omega⟩
    simp only [readF]
    split
    · rename_i m hm
      split
      · have h1 := (acc_some hm).2.2.2.2
        have h2 := h1.length_le
        have h3 := rec_len q.last q.sum m
        exact ih g _ _ (by rw [List.length_drop]; omega) (by rw [List.length_drop]; omega)
      · rfl
    · rfl
theorem readS_stop {q : St} {xs : List Int} (h : acc q.last q.sum xs = none) : readS q xs = q := by
  unfold readS
  simp only [readF]
  rw [h]
theorem readS_full {q : St} {xs : List Int} (h : ¬ q.mv.length < 4096) : readS q xs = q := by
  unfold readS
  simp only [readF]
  split
  · rw [if_neg h]
  · rfl
theorem readS_step {q : St} {xs : List Int} {m : MoveV} (h : acc q.last q.sum xs = some m) (hc : q.mv.length < 4096) : readS q xs = readS (q.add m) (xs.drop (recS q.last q.sum m).length) := by
  have h1 := (acc_some h).2.2.2.2
  have h2 := h1.length_le
  have h3 := rec_len q.last q.sum m
  conv => lhs; unfold readS
  simp only [readF]
  rw [h]
  simp only
  rw [if_pos hc]
  exact readF_enough _ _ _ _ (by rw [List.length_drop]; omega) (by omega)
end Go.Proofs.YtpbbemmjodegkaaDoor
