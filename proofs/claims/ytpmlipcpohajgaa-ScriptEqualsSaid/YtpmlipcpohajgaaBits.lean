/-
  The first byte that put tries: 'c << 4 | f', cut to a byte.
-/
import Derived.Test.YtpmlipcpohajgaaMem
import Derived.Laws.BitsAllLaws
import Derived.IntWalk
namespace Go.Proofs.Ytpmlipcpohajgaa
open Go.RowKit

theorem first_byte (c : Int) (f : Nat) (hf : f < 16) : bits .or .i64 (wrap64 (c * 16)) (f : Int) % 256 = (16 * c + (f : Int)) % 256 := by
  show IntKind.i64.wrap ((BitVec.ofInt 64 (wrap64 (c * 16)) ||| BitVec.ofInt 64 (f : Int)).toNat : Int) % 256 = _
  rw [BitVec.toNat_or, BitVec.toNat_ofInt, BitVec.toNat_ofInt]
  obtain ⟨y, hy⟩ : ∃ y : Nat, (wrap64 (c * 16) % ((2 ^ 64 : Nat) : Int)).toNat = y <<< 4 ∧ ((y : Int) * 16 = (c * 16) % 18446744073709551616) := by
    refine ⟨((c * 16) % 18446744073709551616 / 16).toNat, ?_, ?_⟩
    · rw [Nat.shiftLeft_eq]
      unfold wrap64
      have : ((2 ^ 64 : Nat) : Int) = 18446744073709551616 := by decide
      rw [this]
      omega
    · omega
  have hf2 : ((f : Int) % ((2 ^ 64 : Nat) : Int)).toNat = f := by
    have : ((2 ^ 64 : Nat) : Int) = 18446744073709551616 := by decide
    rw [this]
    omega
  rw [hy.1, hf2, ← Nat.shiftLeft_add_eq_or_of_lt (by omega), Nat.shiftLeft_eq, IntKind.wrap_i64]
  have h2 := hy.2
  omega
end Go.Proofs.Ytpmlipcpohajgaa
