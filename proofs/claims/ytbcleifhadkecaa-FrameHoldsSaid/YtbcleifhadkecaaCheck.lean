/-
  The two checks.
-/
import Derived.Test.YtbcleifhadkecaaMem
namespace Go.Proofs.Ytbcleifhadkecaa
open Go.RowKit

theorem chk_step1 (c x : Int) : (c * 3 % 256 + x) % 256 = chkStep c x := by unfold chkStep; omega
theorem chk_step2 (c x : Int) : (3 * c % 256 + x) % 256 = chkStep c x := by unfold chkStep; omega

set_option maxHeartbeats 400000 in
theorem check_any (A : Option Addr) (n cap : Nat) (xs : List Int) (w : World) (hr : BReads w A n xs) (hn : n ≤ 9223372036854775807) :
    Calls Try.prog 28 #[.slice A n cap] w fun e w' => e = .returned (.int .u8 (chk xs)) ∧ w = w' := by
  go_enter Try.func28, Try.ntmps28
  go_wp2
  go_loop [3, 5, 8] (fun c x i => ∃ k : Nat, k ≤ n ∧ i = .int .i64 k ∧ c = .int .u8 (chk (xs.take k))) (fun _ _ i => n - (intOf i).toNat)
  case atStart => exact ⟨0, Nat.zero_le _, rfl, rfl⟩
  case round =>
    obtain ⟨k, hk, rfl, rfl⟩ := hrel
    have hlen := hr.length
    by_cases hlt : k < n
    · obtain ⟨ad, rfl, hc, h0, h1⟩ := hr.at_ hlt
      have hb := chk_bd (xs.take k)
      go_wp2
      refine ⟨⟨k + 1, by omega, by go_num, ?_⟩, by simp [intOf]; omega⟩
      rw [chk_snoc xs k (by omega), ← chk_step1]
    · have hkn : k = n := by omega
      have hft : chk (xs.take k) = chk xs := by rw [List.take_of_length_le (by omega)]
      have H := Lib.hid hft
      have H2 := Lib.hid hkn
      clear hft hkn
      go_wp2
      go_ret
      exact ⟨by rw [H.out]; rfl, rfl⟩

set_option maxHeartbeats 400000 in
theorem rcheck_any (A : Option Addr) (n cap : Nat) (xs : List Int) (w : World) (hr : BReads w A n xs) (hn : n ≤ 9223372036854775807) :
    Calls Try.prog 16 #[.slice A n cap] w fun e w' => e = .returned (.int .u8 (chk xs)) ∧ w = w' := by
  go_enter Try.func16, Try.ntmps16
  go_wp2
  go_loop [3, 4] (fun c i => ∃ k : Nat, k ≤ n ∧ i = .int .i64 k ∧ c = .int .u8 (chk (xs.take k))) (fun _ i => n - (intOf i).toNat)
  case atStart => exact ⟨0, Nat.zero_le _, rfl, rfl⟩
  case round =>
    obtain ⟨k, hk, rfl, rfl⟩ := hrel
    have hlen := hr.length
    by_cases hlt : k < n
    · obtain ⟨ad, rfl, hc, h0, h1⟩ := hr.at_ hlt
      have hb := chk_bd (xs.take k)
      go_wp2
      refine ⟨⟨k + 1, by omega, by go_num, ?_⟩, by simp [intOf]; omega⟩
      rw [chk_snoc xs k (by omega), ← chk_step2]
    · have hkn : k = n := by omega
      have hft : chk (xs.take k) = chk xs := by rw [List.take_of_length_le (by omega)]
      have H := Lib.hid hft
      have H2 := Lib.hid hkn
      clear hft hkn
      go_wp2
      go_ret
      exact ⟨by rw [H.out]; rfl, rfl⟩
end Go.Proofs.Ytbcleifhadkecaa
