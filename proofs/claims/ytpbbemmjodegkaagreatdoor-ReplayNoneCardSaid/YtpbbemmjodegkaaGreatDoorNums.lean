/-
  number, sum, get.
-/
import Derived.Test.YtpbbemmjodegkaaGreatDoorPut
set_option linter.unusedSimpArgs false
set_option linter.unusedVariables false
namespace Go.Proofs.YtpbbemmjodegkaaGreatDoor
open Go.RowKit

theorem and127 {y : Int} (h0 : 0 ≤ y) (h1 : y ≤ 255) : bits .and .u8 y 127 = ((y.toNat % 128 : Nat) : Int) := by
  have h : ∀ z : Fin 256, z.val &&& 127 = z.val % 128 := by decide +kernel
  have h1 := h ⟨y.toNat, by omega⟩
  simp only at h1
  show IntKind.u8.wrap ((BitVec.ofInt 8 y &&& BitVec.ofInt 8 127).toNat : Int) = _
  rw [BitVec.toNat_and, BitVec.toNat_ofInt, BitVec.toNat_ofInt]
  have e1 : (y % ((2 ^ 8 : Nat) : Int)).toNat = y.toNat := by
    have : ((2 ^ 8 : Nat) : Int) = 256 := by decide
    rw [this]
    omega
  have e2 : ((127 : Int) % ((2 ^ 8 : Nat) : Int)).toNat = 127 := by decide
  rw [e1, e2, h1]
  simp only [IntKind.wrap_u8]
  omega
theorem acc_or (k a : Nat) (y : Int) (ha : a < 128 ^ k) (hk : k < 9 ∨ (k = 9 ∧ y ≤ 1)) (h0 : 0 ≤ y) (h1 : y ≤ 255) :
    bits .or .u64 (a : Int) (IntKind.u64.wrap (IntKind.u64.wrap (bits .and .u8 y 127) * 2 ^ (7 * k))) = ((a + y.toNat % 128 * 128 ^ k : Nat) : Int) := by
  rw [and127 h0 h1]
  generalize hY : y.toNat % 128 = Y at *
  have hYb : Y < 128 := by omega
  have h128 : (128 : Nat) ^ k = 2 ^ (7 * k) := by rw [Nat.pow_mul]
  have hb : a + Y * 128 ^ k < 2 ^ 64 := by
    rcases hk with hk | ⟨rfl, hy⟩
    · have h3 : (Y + 1) * 128 ^ k ≤ 128 * 128 ^ k := Nat.mul_le_mul_right _ (by omega)
      have h4 : 128 * 128 ^ k = 128 ^ (k + 1) := by rw [Nat.pow_succ, Nat.mul_comm]
      have h5 : (128 : Nat) ^ (k + 1) ≤ 128 ^ 9 := Nat.pow_le_pow_right (by omega) (by omega)
      have h2 : (2 : Nat) ^ 64 = 2 * 128 ^ 9 := by decide
      rw [Nat.add_mul] at h3
      omega
    · have h3 : Y * 128 ^ 9 ≤ 1 * 128 ^ 9 := Nat.mul_le_mul_right _ (by omega)
      have h2 : (2 : Nat) ^ 64 = 2 * 128 ^ 9 := by decide
      omega
  have hw : ∀ z : Nat, z < 2 ^ 64 → IntKind.u64.wrap (z : Int) = z := by
    intro z hz
    rw [IntKind.wrap_u64]
    omega
  rw [hw Y (by omega)]
  have e2 : ((Y : Int) * 2 ^ (7 * k)) = ((Y * 128 ^ k : Nat) : Int) := by rw [h128]; push_cast; rfl
  rw [e2, hw _ (by omega)]
  show IntKind.u64.wrap ((BitVec.ofInt 64 (a : Int) ||| BitVec.ofInt 64 ((Y * 128 ^ k : Nat) : Int)).toNat : Int) = _
  rw [BitVec.toNat_or, BitVec.toNat_ofInt, BitVec.toNat_ofInt]
  have e3 : ((a : Int) % ((2 ^ 64 : Nat) : Int)).toNat = a := by
    rw [← Int.natCast_emod, Int.toNat_natCast, Nat.mod_eq_of_lt (by omega)]
  have e4 : (((Y * 128 ^ k : Nat) : Int) % ((2 ^ 64 : Nat) : Int)).toNat = Y <<< (7 * k) := by
    rw [← Int.natCast_emod, Int.toNat_natCast, Nat.mod_eq_of_lt (by omega), Nat.shiftLeft_eq, h128]
  rw [e3, e4, Nat.or_comm, ← Nat.shiftLeft_add_eq_or_of_lt (by rw [← h128]; exact ha), Nat.shiftLeft_eq, ← h128, Nat.add_comm, hw _ hb]
theorem acc_or9 (a : Nat) (y : Int) (ha : a < 128 ^ 9) (hy : y ≤ 1) (h0 : 0 ≤ y) :
    bits .or .u64 (a : Int) (IntKind.u64.wrap (IntKind.u64.wrap (bits .and .u8 y 127) * 9223372036854775808)) = ((a + y.toNat % 128 * 128 ^ 9 : Nat) : Int) := acc_or 9 a y ha (.inr ⟨rfl, hy⟩) h0 (by omega)
theorem acc_or0 (a : Nat) (y : Int) (ha : a < 1) (h0 : 0 ≤ y) (h1 : y ≤ 255) :
    bits .or .u64 (a : Int) (IntKind.u64.wrap (IntKind.u64.wrap (bits .and .u8 y 127))) = ((a + y.toNat % 128 : Nat) : Int) := by
  have := acc_or 0 a y (by simpa using ha) (.inl (by omega)) h0 h1
  simpa only [Nat.mul_zero, Int.pow_zero, Int.mul_one, Nat.pow_zero, Nat.mul_one] using this
theorem getL_unroll (k a : Nat) (xs : List Int) (hk : k < 10) (hl : k < xs.length) : getL (10 - k) k a (xs.drop k) =
    if (k = 9 ∧ 1 < nth xs k) ∨ (0 < k ∧ nth xs k = 0) then (0, 0) else if nth xs k < 128 then (a + (nth xs k).toNat * 128 ^ k, k + 1) else getL (10 - (k + 1)) (k + 1) (a + ((nth xs k).toNat % 128) * 128 ^ k) (xs.drop (k + 1)) := by
  have hg : nth xs k = xs[k]'hl := by simp [nth, List.getD, List.getElem?_eq_getElem hl]
  obtain ⟨f, hf⟩ : ∃ f, 10 - k = f + 1 := ⟨9 - k, by omega⟩
  rw [hf, List.drop_eq_getElem_cons hl, getL, ← hg, show 10 - (k + 1) = f by omega]
theorem getL_end (k a : Nat) (xs : List Int) (h : 10 ≤ k ∨ xs.length ≤ k) : getL (10 - k) k a (xs.drop k) = (0, 0) := by
  rcases h with h | h
  · rw [show 10 - k = 0 by omega]; rfl
  · rw [List.drop_eq_nil_of_le h]
    cases 10 - k <;> rfl

theorem e9 : ((9 : Nat) : Int) = 9 := rfl
theorem e0 : ((0 : Nat) : Int) = 0 := rfl
set_option maxHeartbeats 800000 in
theorem get_any (A : Option Addr) (n c : Nat) (xs : List Int) (w : World) (hx : BReads w A n xs) (hn : n ≤ 9223372036854775807) :
    Calls Tryz.prog 80 #[.slice A n c] w fun e w' => e = .returned (.tuple #[.int .u64 (getS xs).1, .int .i64 (getS xs).2]) ∧ w = w' := by
  have hl := hx.length
  have HL := Lib.hid hl
  have HX := Lib.hid hx
  clear hl hx
  unfold getS
  generalize hG : getL 10 0 0 xs = G at *
  have HG := Lib.hid hG
  clear hG
  go_enter Tryz.func80, Tryz.ntmps80
  go_wp2
  go_loop [2, 4] (fun v i => ∃ k a : Nat, k ≤ n ∧ k ≤ 10 ∧ i = .int .i64 k ∧ v = .int .u64 a ∧ a < 128 ^ k ∧ Hid (getL (10 - k) k a (xs.drop k) = G)) (fun _ i => n - (intOf i).toNat)
  case atStart => exact ⟨0, 0, Nat.zero_le _, by omega, rfl, rfl, by decide, Lib.hid HG.out⟩
  case round =>
    obtain ⟨k, a, hk, hk10, rfl, rfl, ha, HE⟩ := hrel
    by_cases hlt : k < n ∧ k < 10
    · obtain ⟨hlt, hlt10⟩ := hlt
      obtain ⟨ad, rfl, hc, hb0, hb1⟩ := HX.out.at_ hlt
      have hlt' : (k : Int) < n := by omega
      have HU := Lib.hid (getL_unroll k a xs hlt10 (by rw [HL.out]; exact hlt))
      generalize hy : nth xs k = y at *
      clear hy
      by_cases hA : (k = 9 ∧ 1 < y) ∨ (0 < k ∧ y = 0)
      · have hG : G = (0, 0) := by rw [← HE.out, HU.out, if_pos hA]
        subst hG
        clear HE HG HU
        rcases hA with ⟨rfl, h1⟩ | ⟨h1, rfl⟩
        · have hc9 : w.cell? ⟨ad.block, ad.off + 9, none⟩ = some (.int .u8 y) := by simpa [Addr.add] using hc
          rw [e9]
          go_wp2
          go_ret2
          exact ⟨rfl, rfl⟩
        · by_cases h9 : k = 9
          · subst h9
            have hc9 : w.cell? ⟨ad.block, ad.off + 9, none⟩ = some (.int .u8 0) := by simpa [Addr.add] using hc
            rw [e9]
            go_wp2
            go_ret2
            exact ⟨rfl, rfl⟩
          · have h9' : ¬ (k : Int) = 9 := by omega
            go_wp2
            go_ret2
            exact ⟨rfl, rfl⟩
      · by_cases hy : y < 128
        · have hv : Hid (G = (a + y.toNat * 128 ^ k, k + 1)) := Lib.hid (by rw [← HE.out, HU.out, if_neg hA, if_pos hy])
          have hym : y.toNat % 128 = y.toNat := by omega
          have HM := Lib.hid hym
          have HA := Lib.hid hA
          clear hym hA HE HG HU
          by_cases h9 : k = 9
          · subst h9
            have hy1 : y = 1 := by have := HA.out; omega
            subst hy1
            have e := acc_or9 a 1 ha (by omega) (by omega)
            have hc9 : w.cell? ⟨ad.block, ad.off + 9, none⟩ = some (.int .u8 1) := by simpa [Addr.add] using hc
            rw [e9]
            go_wp2
            go_ret2
            refine ⟨?_, rfl⟩
            rw [hv.out]
            rfl
          · have h9' : ¬ (k : Int) = 9 := by omega
            have e := acc_or k a y ha (by omega) hb0 hb1
            rw [HM.out] at e
            have HE2 := Lib.hid e
            clear e
            rcases Nat.eq_zero_or_pos k with hk0 | hk0
            · subst hk0
              have hc9 : w.cell? ad = some (.int .u8 y) := by simpa [Addr.add] using hc
              rw [e0]
              go_wp2
              go_ret2
              refine ⟨?_, rfl⟩
              rw [hv.out]
              show Ending.returned (.tuple #[.int .u64 _, .int .i64 _]) = Ending.returned (.tuple #[.int .u64 _, .int .i64 _])
              rw [acc_or0 a y (by simpa using ha) hb0 hb1, HM.out, Nat.pow_zero, Nat.mul_one]
              rfl
            · have hy0 : (y == 0) = false := by have := HA.out; simp; omega
              go_wp2
              go_ret2
              refine ⟨?_, rfl⟩
              rw [hv.out]
              show Ending.returned (.tuple #[.int .u64 _, .int .i64 _]) = Ending.returned (.tuple #[.int .u64 _, .int .i64 _])
              rw [HE2.out]
              rfl
        · have h9 : k ≠ 9 := by rintro rfl; omega
          have h9' : ¬ (k : Int) = 9 := by omega
          have e := acc_or k a y ha (by omega) hb0 hb1
          have HE2 := Lib.hid e
          have HN : Hid (getL (10 - (k + 1)) (k + 1) (a + y.toNat % 128 * 128 ^ k) (xs.drop (k + 1)) = G) := Lib.hid (by rw [← HE.out, HU.out, if_neg hA, if_neg hy])
          have hp : a + y.toNat % 128 * 128 ^ k < 128 ^ (k + 1) := by
            have h3 : (y.toNat % 128 + 1) * 128 ^ k ≤ 128 * 128 ^ k := Nat.mul_le_mul_right _ (by omega)
            rw [Nat.pow_succ, Nat.mul_comm _ 128]
            rw [Nat.add_mul] at h3
            omega
          have HP := Lib.hid hp
          have hy0 : (y == 0) = false := by simp; omega
          clear e hp hA HE HU
          rcases Nat.eq_zero_or_pos k with hk0 | hk0
          · subst hk0
            have hc9 : w.cell? ad = some (.int .u8 y) := by simpa [Addr.add] using hc
            rw [e0]
            go_wp2
            go_round
            case rel => exact ⟨1, a + y.toNat % 128, by omega, by omega, rfl, by rw [acc_or0 a y (by simpa using ha) hb0 hb1], by simpa using HP.out, by simpa using HN⟩
            case measure => simp [intOf]; omega
          · go_wp2
            go_round
            case rel => exact ⟨k + 1, a + y.toNat % 128 * 128 ^ k, by omega, by omega, by go_num, by rw [HE2.out], HP.out, HN⟩
            case measure => simp [intOf]; omega
    · have hG : G = (0, 0) := by rw [← HE.out, getL_end k a xs (by rw [HL.out]; omega)]
      subst hG
      clear HE HG
      by_cases h1 : k < n
      · obtain rfl : k = 10 := by omega
        go_wp2
        go_ret2
        exact ⟨rfl, rfl⟩
      · obtain rfl : k = n := by omega
        go_wp2
        go_ret2
        exact ⟨rfl, rfl⟩
end Go.Proofs.YtpbbemmjodegkaaGreatDoor
