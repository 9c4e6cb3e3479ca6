/-
  without.
-/
import Derived.Test.YtngcmihaheiigaaMdl
set_option linter.unusedSimpArgs false
set_option linter.unusedVariables false
namespace Go.Proofs.Ytngcmihaheiigaa
open Go.RowKit

/-- What is left of a list. -/
def woS (l : List Int) (i : Nat) (head : Bool) : List Int := if head = true then (l.drop 1).eraseIdx (i - 1) else l.eraseIdx i
theorem erase_snoc {l : List Int} {i : Nat} {x : Int} : (l ++ [x]).eraseIdx i = if i = l.length then l else if i < l.length then l.eraseIdx i ++ [x] else l ++ [x] := by
  rcases Nat.lt_trichotomy i l.length with h | h | h
  · rw [if_neg (by omega), if_pos h, List.eraseIdx_append_of_lt_length h]
  · subst h
    rw [if_pos rfl, List.eraseIdx_append_of_length_le (Nat.le_refl _), Nat.sub_self]
    simp
  · rw [if_neg (by omega), if_neg (by omega), List.eraseIdx_of_length_le (by simp; omega)]
theorem erase_far {l : List Int} {i : Nat} (h : l.length ≤ i) : l.eraseIdx i = l := List.eraseIdx_of_length_le h
theorem woF {l : List Int} {i : Nat} : woS l i false = l.eraseIdx i := by unfold woS; simp
theorem woT {l : List Int} {i : Nat} : woS l i true = (l.drop 1).eraseIdx (i - 1) := by unfold woS; simp
/-- One element more: it stays, or it goes. -/
theorem wo_step {l : List Int} {i k : Nat} {head : Bool} (hk : k < l.length) (hi : head = true → 1 ≤ i) : woS (l.take (k + 1)) i head = if k ≠ i ∧ (0 < k ∨ head = false) then woS (l.take k) i head ++ [ith l k] else woS (l.take k) i head := by
  have ht : l.take (k + 1) = l.take k ++ [ith l k] := by rw [List.take_add_one, ith_get hk]; rfl
  have hl : (l.take k).length = k := by rw [List.length_take]; omega
  cases head with
  | false =>
    rw [woF, woF, ht, erase_snoc, hl]
    by_cases h1 : i = k
    · have hc : ¬ (k ≠ i ∧ (0 < k ∨ false = false)) := fun h => h.1 h1.symm
      rw [if_pos h1, if_neg hc, erase_far (by omega)]
    · have hc : k ≠ i ∧ (0 < k ∨ false = false) := ⟨fun e => h1 e.symm, .inr rfl⟩
      rw [if_neg h1, if_pos hc]
      by_cases h2 : i < k
      · rw [if_pos h2]
      · rw [if_neg h2, erase_far (by omega)]
  | true =>
    have hi1 := hi rfl
    rw [woT, woT, ht]
    rcases Nat.eq_zero_or_pos k with h0 | h0
    · subst h0
      have hc : ¬ (0 ≠ i ∧ (0 < 0 ∨ true = false)) := by simp
      rw [if_neg hc]
      simp
    · have hd : (l.take k ++ [ith l k]).drop 1 = (l.take k).drop 1 ++ [ith l k] := by rw [List.drop_append_of_le_length (by omega)]
      have hl2 : ((l.take k).drop 1).length = k - 1 := by rw [List.length_drop, hl]
      rw [hd, erase_snoc, hl2]
      by_cases h1 : i = k
      · have hc : ¬ (k ≠ i ∧ (0 < k ∨ true = false)) := fun h => h.1 h1.symm
        have h2 : i - 1 = k - 1 := by omega
        rw [if_pos h2, if_neg hc, erase_far (by omega)]
      · have hc : k ≠ i ∧ (0 < k ∨ true = false) := ⟨fun e => h1 e.symm, .inl h0⟩
        have h2 : ¬ i - 1 = k - 1 := by omega
        rw [if_neg h2, if_pos hc]
        by_cases h3 : i - 1 < k - 1
        · rw [if_pos h3]
        · rw [if_neg h3, erase_far (by omega)]
theorem wo_zero {l : List Int} {i : Nat} {head : Bool} : woS (l.take 0) i head = [] := by unfold woS; split <;> simp
theorem wo_len {l : List Int} {i : Nat} {head : Bool} : (woS l i head).length ≤ l.length := by
  unfold woS
  split
  · have := List.length_eraseIdx_le (l.drop 1) (i - 1); rw [List.length_drop] at this; omega
  · exact List.length_eraseIdx_le l i

set_option maxRecDepth 100000 in
set_option maxHeartbeats 800000 in
theorem without_any (A : Option Addr) (n c i : Nat) (head : Bool) (l : List Int) (w : World) (hx : Reads w 1 A n (ics l)) (hn : n ≤ 1000) (hi : head = true → 1 ≤ i) (hi2 : i ≤ 1000) :
    Calls Try.prog 45 #[.slice A n c, .int .i64 i, .bool head] w fun e w' => ∃ A' c', e = .returned (.slice A' (woS l i head).length c') ∧ XOwns w' w.heap.size 3 1 A' (woS l i head).length c' (ics (woS l i head)) ∧ Below w.heap.size w w' := by
  have HX : Hid (∀ W, Below w.heap.size w W → Reads W 1 A n (ics l)) := Lib.hid fun W hb => hx.below hb
  have HL := Lib.hid (ilen hx)
  have HI := Lib.hid hi
  clear hx hi
  go_enter Try.func45, Try.ntmps45
  go_wp2
  go_loopw [7, 8] (fun v i2 W => ∃ (k : Nat) (A' : Option Addr) (m c' : Nat), k ≤ n ∧ i2 = .int .i64 k ∧ v = .slice A' m c' ∧ m ≤ k ∧ Hid (m = (woS (l.take k) i head).length) ∧ XOwns W w.heap.size 3 1 A' m c' (ics (woS (l.take k) i head)) ∧ Below w.heap.size w W) (fun _ i2 _ => n - (intOf i2).toNat)
  case atStart => exact ⟨0, none, 0, 0, Nat.zero_le _, rfl, rfl, Nat.le_refl _, Lib.hid (by rw [wo_zero]; rfl), by rw [wo_zero]; exact XOwns.nil_ _ _ _ _, Below.refl _ _⟩
  case round =>
    obtain ⟨k, A', m, c', hk, rfl, rfl, hmk, HM, hO, hB⟩ := hrel
    have HO := Lib.hid hO
    have hz := hB.size
    clear hO
    by_cases hlt : k < n
    · have hlt' : (k : Int) < n := by omega
      obtain ⟨ad, rfl, had, c0⟩ := int_at (HX.out _ hB) hlt
      have HST := Lib.hid (wo_step (l := l) (i := i) (k := k) (head := head) (by rw [HL.out]; exact hlt) HI.out)
      by_cases hki : k = i
      · subst hki
        have HS : Hid (woS (l.take (k + 1)) k head = woS (l.take k) k head) := Lib.hid (by rw [HST.out, if_neg (by omega)])
        go_wp2
        go_roundw
        case rel => exact ⟨k + 1, A', m, c', by omega, by go_num, rfl, by omega, Lib.hid (by rw [HS.out]; exact HM.out), by rw [HS.out]; exact HO.out, hB⟩
        case measure => simp [intOf]; omega
      · have hki' : ((k : Int) == i) = false := by rw [beq_eq_false_iff_ne]; omega
        by_cases hst : 0 < k ∨ head = false
        · have HS : Hid (woS (l.take (k + 1)) i head = woS (l.take k) i head ++ [ith l k]) := Lib.hid (by rw [HST.out, if_pos ⟨hki, hst⟩])
          have hal : Below wr.heap.size wr (wr.alloc (.cells #[.int .i64 (ith l k)] 3)) := (Below.refl _ _).alloc (Nat.le_refl _) _
          have HBL := Lib.hid (Blk.mk_ wr 3 #[.int .i64 (ith l k)] _ rfl)
          rcases Nat.eq_zero_or_pos k with hk0 | hk0
          · have hh : head = false := by rcases hst with h | h; omega; exact h
            subst hk0 hh
            have c0' : wr.cell? ad = some (.int .i64 (ith l 0)) := by simpa [Addr.add] using c0
            go_wp2_with (at_builtin; refine append_xr (w := (wr.alloc (.cells #[.int .i64 (ith l 0)] 3))) ?_ (.tmp 26) (.tmp 31) 37 ?_ w.heap.size 3 (.int .i64 0) 1 8 Try.info3 Try.underlying37 rfl (by decide) A' m c' (ics (woS (l.take 0) i false)) ?_ (HO.out.below hal) (some ⟨wr.heap.size, 0, none⟩) 1 1 (ics [ith l 0]) ?_ (fun h => by cases h) (reads_block HBL.out 1 1 rfl) (ics_one _) ?_ ?_ ?_ ?_; rfl; rfl; rfl; rfl; omega; omega; (simp; omega); intro A5 c5 w5 ho5 hb5)
            go_roundw
            case rel => exact ⟨1, A5, m + 1, c5, by omega, by go_num, rfl, by omega, Lib.hid (by rw [HS.out, List.length_append, ← HM.out]; rfl), by rw [HS.out]; (have h := ho5; rw [show ics (woS (l.take 0) i false) ++ ics [ith l 0] = ics (woS (l.take 0) i false ++ [ith l 0]) by simp [ics]] at h; exact h), (hB.trans (hal.mono hz)).trans hb5⟩
            case measure => simp [intOf]; omega
          · have hk0' : (0 : Int) < k := by omega
            go_wp2_with (at_builtin; refine append_xr (w := (wr.alloc (.cells #[.int .i64 (ith l k)] 3))) ?_ (.tmp 26) (.tmp 31) 37 ?_ w.heap.size 3 (.int .i64 0) 1 8 Try.info3 Try.underlying37 rfl (by decide) A' m c' (ics (woS (l.take k) i head)) ?_ (HO.out.below hal) (some ⟨wr.heap.size, 0, none⟩) 1 1 (ics [ith l k]) ?_ (fun h => by cases h) (reads_block HBL.out 1 1 rfl) (ics_one _) ?_ ?_ ?_ ?_; rfl; rfl; rfl; rfl; omega; omega; (simp; omega); intro A5 c5 w5 ho5 hb5)
            go_roundw
            case rel => exact ⟨k + 1, A5, m + 1, c5, by omega, by go_num, rfl, by omega, Lib.hid (by rw [HS.out, List.length_append, ← HM.out]; rfl), by rw [HS.out]; (have h := ho5; rw [show ics (woS (l.take k) i head) ++ ics [ith l k] = ics (woS (l.take k) i head ++ [ith l k]) by simp [ics]] at h; exact h), (hB.trans (hal.mono hz)).trans hb5⟩
            case measure => simp [intOf]; omega
        · have hk0 : k = 0 := by omega
          have hh : head = true := by cases head with
            | true => rfl
            | false => exact absurd (.inr rfl) hst
          subst hk0 hh
          have HS : Hid (woS (l.take 1) i true = woS (l.take 0) i true) := Lib.hid (by rw [HST.out, if_neg (by simp)])
          go_wp2
          go_roundw
          case rel => exact ⟨1, A', m, c', by omega, by go_num, rfl, by omega, Lib.hid (by rw [HS.out]; exact HM.out), by rw [HS.out]; exact HO.out, hB⟩
          case measure => simp [intOf]; omega
    · obtain rfl : k = n := by omega
      have HT : Hid (l.take k = l) := Lib.hid (List.take_of_length_le (by rw [HL.out]; exact Nat.le_refl _))
      go_wp2
      go_ret
      have hm := HM.out
      have ho := HO.out
      rw [HT.out] at hm ho
      subst hm
      exact ⟨A', c', rfl, ho, hB⟩
end Go.Proofs.Ytngcmihaheiigaa
