/-
  Texts: Put, Nums, Kj.
-/
import Derived.Test.YtpbbemmjodegkaaDoorXk15
import Derived.Test.YtpbbemmjodegkaaDoorXk1
import Derived.LoopTactic
import Derived.Test.YtpbbemmjodegkaaDoorXk14
import Derived.Lib.AppendStr
set_option linter.unusedSimpArgs false
set_option linter.unusedVariables false
namespace Go.Proofs.YtpbbemmjodegkaaDoor
open Go.RowKit

theorem Tryd.info5 : (Tryd.prog.info? 5).map (fun i => (i.zero, i.size, i.bytes)) = some (some (.int .u8 0), 1, 1) := by kernel_rfl

def NReads (w : World) (L : Option Addr) (n : Nat) (ns : List Nat) : Prop := Reads w 1 L n (ns.map fun (x : Nat) => Value.int .u64 (x : Int)) ∧ ∀ x ∈ ns, x < 2 ^ 64
theorem NReads.length {w : World} {L : Option Addr} {n : Nat} {ns : List Nat} (h : NReads w L n ns) : ns.length = n := by have := h.1.1; simpa using this
theorem NReads.at_ {w : World} {L : Option Addr} {n : Nat} {ns : List Nat} (h : NReads w L n ns) {k : Nat} (hk : k < n) : ∃ ad x, L = some ad ∧ ns[k]? = some x ∧ x < 2 ^ 64 ∧ w.cell? (ad.add k) = some (.int .u64 x) := by
  obtain ⟨ad, u, e, _, hx, hc⟩ := h.1.at_ hk
  have hl := h.length
  have hg : ns[k]? = some (ns[k]'(by omega)) := List.getElem?_eq_getElem (by omega)
  rw [List.getElem?_map, hg] at hx
  injection hx with hx
  exact ⟨ad, _, e, hg, h.2 _ (List.getElem_mem _), by rw [hc, ← hx]⟩
theorem NReads.grown {w w' : World} {L : Option Addr} {n : Nat} {ns : List Nat} {r : Option Nat} (h : NReads w L n ns) (hg : w.grownBy w' r) (hne : 0 < n → blkOf L ≠ r) : NReads w' L n ns := ⟨h.1.grown hg hne, h.2⟩

theorem or128 (q : Nat) : bits .or .u8 ((q : Int) % 256) 128 = (q : Int) % 128 + 128 := by
  have h : ∀ y : Fin 256, y.val ||| 128 = y.val % 128 + 128 := by decide +kernel
  have h1 := h ⟨q % 256, Nat.mod_lt _ (by decide)⟩
  simp only at h1
  show IntKind.u8.wrap ((BitVec.ofInt 8 ((q : Int) % 256) ||| BitVec.ofInt 8 128).toNat : Int) = _
  rw [BitVec.toNat_or, BitVec.toNat_ofInt, BitVec.toNat_ofInt]
  have e1 : ((q : Int) % 256 % ((2 ^ 8 : Nat) : Int)).toNat = q % 256 := by
    have : ((2 ^ 8 : Nat) : Int) = 256 := by decide
    rw [this]
    omega
  have e2 : ((128 : Int) % ((2 ^ 8 : Nat) : Int)).toNat = 128 := by decide
  rw [e1, e2, h1]
  have e3 : q % 256 % 128 = q % 128 := by omega
  rw [e3]
  simp only [IntKind.wrap_u8]
  omega
theorem put_next {w wr w3 : World} {A0 A1 : Option Addr} {g : Nat} {o : Obj} (hg1 : w.grownBy wr (blkOf A0)) (hs1 : sameOrNew w A0 A1) (hg3 : (wr.alloc o).grownBy w3 (blkOf A1)) (hi : blkOf A1 = some g ∨ g = wr.heap.size + 1) :
    w.grownBy w3 (blkOf A0) ∧ sameOrNew w A0 (some ⟨g, 0, none⟩) := by
  have hz := hg1.size
  refine ⟨grown_trans hg1 (grown_pre ((Below.refl _ _).alloc (Nat.le_refl _) _) hg3) hs1, fun g' hg' => ?_⟩
  have : g = g' := by simpa [blkOf] using hg'
  subst this
  rcases hi with h | h
  · exact hs1 g h
  · exact .inr (by omega)

set_option maxHeartbeats 800000 in
theorem put_any (base : Nat) (A0 : Option Addr) (n0 c0 : Nat) (xs : List Int) (L : Option Addr) (ln lc : Nat) (ns : List Nat) (w : World) (ho : BOwns w base 5 A0 n0 c0 xs) (hL : NReads w L ln ns) (hne : 0 < ln → blkOf L ≠ blkOf A0 ∧ ∀ g, blkOf L = some g → g < w.heap.size)
    (hlen : n0 + 10 * ln ≤ 1000000) (hbase : base ≤ w.heap.size) :
    Calls Tryd.prog 20 #[.slice A0 n0 c0, .slice L ln lc] w fun e w' => ∃ A' n' c', e = .returned (.slice A' n' c') ∧ BOwns w' base 5 A' n' c' (xs ++ ns.flatMap numS) ∧ w.grownBy w' (blkOf A0) ∧ sameOrNew w A0 A' := by
  have HL := Lib.hid hL
  have HN := Lib.hid hne
  have hnl := hL.length
  have HNL := Lib.hid hnl
  clear hL hne hnl
  go_enter Tryd.func20, Tryd.ntmps20
  go_wp2
  go_loopw [0, 9] (fun v i W => ∃ (k : Nat) (A : Option Addr) (n c : Nat), k ≤ ln ∧ i = .int .i64 k ∧ v = .slice A n c ∧ BOwns W base 5 A n c (xs ++ (ns.take k).flatMap numS) ∧ n ≤ n0 + 10 * k ∧ w.grownBy W (blkOf A0) ∧ sameOrNew w A0 A) (fun _ i _ => ln - (intOf i).toNat)
  case atStart => exact ⟨0, A0, n0, c0, Nat.zero_le _, rfl, rfl, by simpa using ho, by omega, only_refl _ _, sameOrNew.refl _ _⟩
  case round =>
    obtain ⟨k, A, n, c, hk, rfl, rfl, hown, hnb, hg, hs⟩ := hrel
    by_cases hlt : k < ln
    · obtain ⟨ad, x, e, hx, hx64, hc⟩ := ((HL.out).grown hg (fun h => (HN.out h).1)).at_ hlt
      subst e
      have hlt' : (k : Int) < ln := by omega
      have hz := hg.size
      have HT : Hid ((ns.take (k + 1)).flatMap numS = (ns.take k).flatMap numS ++ numS x) := Lib.hid (by
        have hkl : k < ns.length := by have := HNL.out; omega
        rw [List.take_succ_eq_append_getElem hkl, List.flatMap_append]
        rw [List.getElem?_eq_getElem hkl] at hx
        injection hx with hx
        simp [hx])
      have HL10 := Lib.hid (numS_len10 hx64)
      clear hx
      generalize hxs : xs ++ (ns.take k).flatMap numS = ys at *
      have HXS := Lib.hid hxs
      clear hxs
      go_wp2
      go_loopw [0, 6] (fun v i W => ∃ (q : Nat) (zs : List Int) (A : Option Addr) (m c : Nat), i = .int .u64 q ∧ v = .slice A m c ∧ BOwns W base 5 A m c (ys ++ zs) ∧ Hid (zs ++ numS q = numS x) ∧ w.grownBy W (blkOf A0) ∧ sameOrNew w A0 A ∧ q < 18446744073709551616 ∧ m = n + zs.length) (fun _ i _ => (intOf i).toNat)
      case atStart => exact ⟨x, [], A, n, c, rfl, rfl, by simpa using hown, Lib.hid (by simp), hg, hs, hx64, by simp⟩
      case round =>
        obtain ⟨q, zs, A1, m1, c1, rfl, rfl, hown1, HZ, hg1, hs1, hq, rfl⟩ := hrel
        have hz1 := hg1.size
        have hzl : zs.length ≤ 9 := by
          have h1 := congrArg List.length HZ.out
          have h2 := numS_pos q
          rw [List.length_append] at h1
          have := HL10.out
          omega
        by_cases h128 : 128 ≤ q
        · have h127 : (127 : Int) < q := by omega
          have hor := or128 q
          go_wp2_with (at_builtin; refine append_bytes_at _ rfl (.tmp 17) (.tmp 21) 35 rfl base 5 Tryd.info5 Tryd.underlying35 A1 (n + zs.length) c1 (ys ++ zs) rfl (hown1.alloc _) (some ⟨wr.heap.size, 0, none⟩) 1 1 [(q : Int) % 128 + 128] rfl ?_ (by decide) ?_ ?_ (wr.heap.size + 1) ?_ ?_; exact BReads.lit _ _ [(q : Int) % 128 + 128] _ _ (fun y hy => by (rw [List.mem_singleton] at hy; subst hy; exact ⟨by omega, by omega⟩)) rfl rfl; omega; (focus (first | omega | (simp only [World.size_alloc]; done) | (simp only [World.size_alloc]; omega) | (simp; done) | (simp; omega))); simp; intro g2 c2 w3 ho3 hg3 hi3 hlt3)
          obtain ⟨hgn, hsn⟩ := put_next hg1 hs1 hg3 hi3
          go_roundw
          case rel => exact ⟨q / 128, zs ++ [(q : Int) % 128 + 128], some ⟨g2, 0, none⟩, n + zs.length + 1, c2, by go_num, rfl, by simpa using ho3, Lib.hid (by rw [← HZ.out, numS_ge h128]; simp), hgn, hsn, by omega, by simp; omega⟩
          case measure => simp [intOf]; omega
        · have h127 : ¬ (127 : Int) < q := by omega
          go_wp2_with (at_builtin; refine append_bytes_at _ rfl (.tmp 23) (.tmp 26) 35 rfl base 5 Tryd.info5 Tryd.underlying35 A1 (n + zs.length) c1 (ys ++ zs) rfl (hown1.alloc _) (some ⟨wr.heap.size, 0, none⟩) 1 1 [(q : Int)] rfl ?_ (by decide) ?_ ?_ (wr.heap.size + 1) ?_ ?_; exact BReads.lit _ _ [(q : Int)] _ _ (fun y hy => by (rw [List.mem_singleton] at hy; subst hy; exact ⟨by omega, by omega⟩)) rfl rfl; omega; (focus (first | omega | (simp only [World.size_alloc]; done) | (simp only [World.size_alloc]; omega) | (simp; done) | (simp; omega))); simp; intro g2 c2 w3 ho3 hg3 hi3 hlt3)
          obtain ⟨hgn, hsn⟩ := put_next hg1 hs1 hg3 hi3
          go_roundw
          case rel => exact ⟨k + 1, some ⟨g2, 0, none⟩, n + zs.length + 1, c2, by omega, by go_num, rfl, by rw [HT.out, ← HZ.out, numS_lt (by omega), ← List.append_assoc, HXS.out, ← List.append_assoc]; exact ho3, by omega, hgn, hsn⟩
          case measure => simp [intOf]; omega
    · obtain rfl : k = ln := by omega
      go_wp2
      go_ret
      refine ⟨A, n, c, rfl, ?_, hg, hs⟩
      rw [List.take_of_length_le (by rw [HNL.out]; exact Nat.le_refl _)] at hown
      exact hown

theorem and127 {y : Int} (h0 : 0 ≤ y) (h1 : y ≤ 255) : bits .and .u8 y 127 = ((y.toNat % 128 : Nat) : Int) := by
  have h : ∀ z : Fin 256, z.val &&& 127 = z.val % 128 := by decide +kernel
  have h1 := h ⟨y.toNat, by omega⟩
  simp only at h1
  show IntKind.u8.wrap ((BitVec.ofInt 8 y &&& BitVec.ofInt 8 127).toNat : Int) = _
  rw [BitVec.toNat_and, BitVec.toNat_ofInt, BitVec.toNat_ofInt]
  have e1 : (y % ((2 ^ 8 : Nat) : Int)).toNat = y.toNat := by
    have : ((2 ^ 8 : Nat) : Int) = 256 := by decide
    rw [this]
    omega
  have e2 : ((127 : Int) % ((2 ^ 8 : Nat) : Int)).toNat = 127 := by decide
  rw [e1, e2, h1]
  simp only [IntKind.wrap_u8]
  omega
theorem acc_or (k a : Nat) (y : Int) (ha : a < 128 ^ k) (hk : k < 9 ∨ (k = 9 ∧ y ≤ 1)) (h0 : 0 ≤ y) (h1 : y ≤ 255) :
    bits .or .u64 (a : Int) (IntKind.u64.wrap (IntKind.u64.wrap (bits .and .u8 y 127) * 2 ^ (7 * k))) = ((a + y.toNat % 128 * 128 ^ k : Nat) : Int) := by
  rw [and127 h0 h1]
  generalize hY : y.toNat % 128 = Y at *
  have hYb : Y < 128 := by omega
  have h128 : (128 : Nat) ^ k = 2 ^ (7 * k) := by rw [Nat.pow_mul]
  have hb : a + Y * 128 ^ k < 2 ^ 64 := by
    rcases hk with hk | ⟨rfl, hy⟩
    · have h3 : (Y + 1) * 128 ^ k ≤ 128 * 128 ^ k := Nat.mul_le_mul_right _ (by omega)
      have h4 : 128 * 128 ^ k = 128 ^ (k + 1) := by rw [Nat.pow_succ, Nat.mul_comm]
      have h5 : (128 : Nat) ^ (k + 1) ≤ 128 ^ 9 := Nat.pow_le_pow_right (by omega) (by omega)
      have h2 : (2 : Nat) ^ 64 = 2 * 128 ^ 9 := by decide
      rw [Nat.add_mul] at h3
      omega
    · have h3 : Y * 128 ^ 9 ≤ 1 * 128 ^ 9 := Nat.mul_le_mul_right _ (by omega)
      have h2 : (2 : Nat) ^ 64 = 2 * 128 ^ 9 := by decide
      omega
  have hw : ∀ z : Nat, z < 2 ^ 64 → IntKind.u64.wrap (z : Int) = z := by
    intro z hz
    rw [IntKind.wrap_u64]
    omega
  rw [hw Y (by omega)]
  have e2 : ((Y : Int) * 2 ^ (7 * k)) = ((Y * 128 ^ k : Nat) : Int) := by rw [h128]; push_cast; rfl
  rw [e2, hw _ (by omega)]
  show IntKind.u64.wrap ((BitVec.ofInt 64 (a : Int) ||| BitVec.ofInt 64 ((Y * 128 ^ k : Nat) : Int)).toNat : Int) = _
  rw [BitVec.toNat_or, BitVec.toNat_ofInt, BitVec.toNat_ofInt]
  have e3 : ((a : Int) % ((2 ^ 64 : Nat) : Int)).toNat = a := by
    rw [← Int.natCast_emod, Int.toNat_natCast, Nat.mod_eq_of_lt (by omega)]
  have e4 : (((Y * 128 ^ k : Nat) : Int) % ((2 ^ 64 : Nat) : Int)).toNat = Y <<< (7 * k) := by
    rw [← Int.natCast_emod, Int.toNat_natCast, Nat.mod_eq_of_lt (by omega), Nat.shiftLeft_eq, h128]
  rw [e3, e4, Nat.or_comm, ← Nat.shiftLeft_add_eq_or_of_lt (by rw [← h128]; exact ha), Nat.shiftLeft_eq, ← h128, Nat.add_comm, hw _ hb]
theorem acc_or9 (a : Nat) (y : Int) (ha : a < 128 ^ 9) (hy : y ≤ 1) (h0 : 0 ≤ y) :
    bits .or .u64 (a : Int) (IntKind.u64.wrap (IntKind.u64.wrap (bits .and .u8 y 127) * 9223372036854775808)) = ((a + y.toNat % 128 * 128 ^ 9 : Nat) : Int) := acc_or 9 a y ha (.inr ⟨rfl, hy⟩) h0 (by omega)
theorem acc_or0 (a : Nat) (y : Int) (ha : a < 1) (h0 : 0 ≤ y) (h1 : y ≤ 255) :
    bits .or .u64 (a : Int) (IntKind.u64.wrap (IntKind.u64.wrap (bits .and .u8 y 127))) = ((a + y.toNat % 128 : Nat) : Int) := by
  have := acc_or 0 a y (by simpa using ha) (.inl (by omega)) h0 h1
  simpa only [Nat.mul_zero, Int.pow_zero, Int.mul_one, Nat.pow_zero, Nat.mul_one] using this
theorem getL_unroll (k a : Nat) (xs : List Int) (hk : k < 10) (hl : k < xs.length) : getL (10 - k) k a (xs.drop k) =
    if (k = 9 ∧ 1 < nth xs k) ∨ (0 < k ∧ nth xs k = 0) then (0, 0) else if nth xs k < 128 then (a + (nth xs k).toNat * 128 ^ k, k + 1) else getL (10 - (k + 1)) (k + 1) (a + ((nth xs k).toNat % 128) * 128 ^ k) (xs.drop (k + 1)) := by
  have hg : nth xs k = xs[k]'hl := by simp [nth, List.getD, List.getElem?_eq_getElem hl]
  obtain ⟨f, hf⟩ : ∃ f, 10 - k = f + 1 := ⟨9 - k, by omega⟩
  rw [hf, List.drop_eq_getElem_cons hl, getL, ← hg, show 10 - (k + 1) = f by omega]
theorem getL_end (k a : Nat) (xs : List Int) (h : 10 ≤ k ∨ xs.length ≤ k) : getL (10 - k) k a (xs.drop k) = (0, 0) := by
  rcases h with h | h
  · rw [show 10 - k = 0 by omega]; rfl
  · rw [List.drop_eq_nil_of_le h]
    cases 10 - k <;> rfl

theorem e9 : ((9 : Nat) : Int) = 9 := rfl
theorem e0 : ((0 : Nat) : Int) = 0 := rfl
set_option maxHeartbeats 800000 in
theorem get_any (A : Option Addr) (n c : Nat) (xs : List Int) (w : World) (hx : BReads w A n xs) (hn : n ≤ 9223372036854775807) :
    Calls Tryd.prog 61 #[.slice A n c] w fun e w' => e = .returned (.tuple #[.int .u64 (getS xs).1, .int .i64 (getS xs).2]) ∧ w = w' := by
  have hl := hx.length
  have HL := Lib.hid hl
  have HX := Lib.hid hx
  clear hl hx
  unfold getS
  generalize hG : getL 10 0 0 xs = G at *
  have HG := Lib.hid hG
  clear hG
  go_enter Tryd.func61, Tryd.ntmps61
  go_wp2
  go_loop [2, 4] (fun v i => ∃ k a : Nat, k ≤ n ∧ k ≤ 10 ∧ i = .int .i64 k ∧ v = .int .u64 a ∧ a < 128 ^ k ∧ Hid (getL (10 - k) k a (xs.drop k) = G)) (fun _ i => n - (intOf i).toNat)
  case atStart => exact ⟨0, 0, Nat.zero_le _, by omega, rfl, rfl, by decide, Lib.hid HG.out⟩
  case round =>
    obtain ⟨k, a, hk, hk10, rfl, rfl, ha, HE⟩ := hrel
    by_cases hlt : k < n ∧ k < 10
    · obtain ⟨hlt, hlt10⟩ := hlt
      obtain ⟨ad, rfl, hc, hb0, hb1⟩ := HX.out.at_ hlt
      have hlt' : (k : Int) < n := by omega
      have HU := Lib.hid (getL_unroll k a xs hlt10 (by rw [HL.out]; exact hlt))
      generalize hy : nth xs k = y at *
      clear hy
      by_cases hA : (k = 9 ∧ 1 < y) ∨ (0 < k ∧ y = 0)
      · have hG : G = (0, 0) := by rw [← HE.out, HU.out, if_pos hA]
        subst hG
        clear HE HG HU
        rcases hA with ⟨rfl, h1⟩ | ⟨h1, rfl⟩
        · have hc9 : w.cell? ⟨ad.block, ad.off + 9, none⟩ = some (.int .u8 y) := by simpa [Addr.add] using hc
          rw [e9]
          go_wp2
          go_ret2
          exact ⟨rfl, rfl⟩
        · by_cases h9 : k = 9
          · subst h9
            have hc9 : w.cell? ⟨ad.block, ad.off + 9, none⟩ = some (.int .u8 0) := by simpa [Addr.add] using hc
            rw [e9]
            go_wp2
            go_ret2
            exact ⟨rfl, rfl⟩
          · have h9' : ¬ (k : Int) = 9 := by omega
            go_wp2
            go_ret2
            exact ⟨rfl, rfl⟩
      · by_cases hy : y < 128
        · have hv : Hid (G = (a + y.toNat * 128 ^ k, k + 1)) := Lib.hid (by rw [← HE.out, HU.out, if_neg hA, if_pos hy])
          have hym : y.toNat % 128 = y.toNat := by omega
          have HM := Lib.hid hym
          have HA := Lib.hid hA
          clear hym hA HE HG HU
          by_cases h9 : k = 9
          · subst h9
            have hy1 : y = 1 := by have := HA.out; omega
            subst hy1
            have e := acc_or9 a 1 ha (by omega) (by omega)
            have hc9 : w.cell? ⟨ad.block, ad.off + 9, none⟩ = some (.int .u8 1) := by simpa [Addr.add] using hc
            rw [e9]
            go_wp2
            go_ret2
            refine ⟨?_, rfl⟩
            rw [hv.out]
            rfl
          · have h9' : ¬ (k : Int) = 9 := by omega
            have e := acc_or k a y ha (by omega) hb0 hb1
            rw [HM.out] at e
            have HE2 := Lib.hid e
            clear e
            rcases Nat.eq_zero_or_pos k with hk0 | hk0
            · subst hk0
              have hc9 : w.cell? ad = some (.int .u8 y) := by simpa [Addr.add] using hc
              rw [e0]
              go_wp2
              go_ret2
              refine ⟨?_, rfl⟩
              rw [hv.out]
              show Ending.returned (.tuple #[.int .u64 _, .int .i64 _]) = Ending.returned (.tuple #[.int .u64 _, .int .i64 _])
              rw [acc_or0 a y (by simpa using ha) hb0 hb1, HM.out, Nat.pow_zero, Nat.mul_one]
              rfl
            · have hy0 : (y == 0) = false := by have := HA.out; simp; omega
              go_wp2
              go_ret2
              refine ⟨?_, rfl⟩
              rw [hv.out]
              show Ending.returned (.tuple #[.int .u64 _, .int .i64 _]) = Ending.returned (.tuple #[.int .u64 _, .int .i64 _])
              rw [HE2.out]
              rfl
        · have h9 : k ≠ 9 := by rintro rfl; omega
          have h9' : ¬ (k : Int) = 9 := by omega
          have e := acc_or k a y ha (by omega) hb0 hb1
          have HE2 := Lib.hid e
          have HN : Hid (getL (10 - (k + 1)) (k + 1) (a + y.toNat % 128 * 128 ^ k) (xs.drop (k + 1)) = G) := Lib.hid (by rw [← HE.out, HU.out, if_neg hA, if_neg hy])
          have hp : a + y.toNat % 128 * 128 ^ k < 128 ^ (k + 1) := by
            have h3 : (y.toNat % 128 + 1) * 128 ^ k ≤ 128 * 128 ^ k := Nat.mul_le_mul_right _ (by omega)
            rw [Nat.pow_succ, Nat.mul_comm _ 128]
            rw [Nat.add_mul] at h3
            omega
          have HP := Lib.hid hp
          have hy0 : (y == 0) = false := by simp; omega
          clear e hp hA HE HU
          rcases Nat.eq_zero_or_pos k with hk0 | hk0
          · subst hk0
            have hc9 : w.cell? ad = some (.int .u8 y) := by simpa [Addr.add] using hc
            rw [e0]
            go_wp2
            go_round
            case rel => exact ⟨1, a + y.toNat % 128, by omega, by omega, rfl, by rw [acc_or0 a y (by simpa using ha) hb0 hb1], by simpa using HP.out, by simpa using HN⟩
            case measure => simp [intOf]; omega
          · go_wp2
            go_round
            case rel => exact ⟨k + 1, a + y.toNat % 128 * 128 ^ k, by omega, by omega, by go_num, by rw [HE2.out], HP.out, HN⟩
            case measure => simp [intOf]; omega
    · have hG : G = (0, 0) := by rw [← HE.out, getL_end k a xs (by rw [HL.out]; omega)]
      subst hG
      clear HE HG
      by_cases h1 : k < n
      · obtain rfl : k = 10 := by omega
        go_wp2
        go_ret2
        exact ⟨rfl, rfl⟩
      · obtain rfl : k = n := by omega
        go_wp2
        go_ret2
        exact ⟨rfl, rfl⟩

def b8 (x : Int) : Int := x % 256
theorem b8_bytes (l : List Int) : IsBytes (l.map b8) := by
  intro x hx
  obtain ⟨y, _, rfl⟩ := List.mem_map.1 hx
  unfold b8
  omega
def psStep (s x : Int) : Int := (31 * s + x) % 4294967296
def psS (xs : List Int) : Int := xs.foldl psStep 17
theorem psS_bd (xs : List Int) : 0 ≤ psS xs ∧ psS xs < 4294967296 := by
  unfold psS
  have : ∀ (l : List Int) (c : Int), 0 ≤ c → c < 4294967296 → 0 ≤ l.foldl psStep c ∧ l.foldl psStep c < 4294967296 := by
    intro l
    induction l with
    | nil => intro c h0 h1; exact ⟨h0, h1⟩
    | cons x l ih =>
      intro c h0 h1
      refine ih _ ?_ ?_ <;> · unfold psStep; omega
  exact this xs 17 (by omega) (by omega)
theorem psS_snoc {xs : List Int} {k : Nat} (hk : k < xs.length) : psS (xs.take (k + 1)) = psStep (psS (xs.take k)) (nth xs k) := by
  have hg : nth xs k = xs[k]'hk := by simp [nth, List.getD, List.getElem?_eq_getElem hk]
  rw [List.take_succ_eq_append_getElem hk, hg]
  unfold psS
  rw [List.foldl_append]
  rfl
set_option maxHeartbeats 1600000 in
theorem psum_any (A : Option Addr) (n c : Nat) (xs : List Int) (w : World) (hx : BReads w A n xs) (hn : n ≤ 9223372036854775807) : Calls Tryd.prog 9 #[.slice A n c] w fun e w' => e = .returned (.int .u32 (psS xs)) ∧ w = w' := by
  have HX := Lib.hid hx
  have HL := Lib.hid hx.length
  clear hx
  go_enter Tryd.func9, Tryd.ntmps9
  go_wp2
  go_loopw [3, 8] (fun s i W => ∃ (k : Nat) (v : Int), k ≤ n ∧ i = .int .i64 k ∧ s = .int .u32 v ∧ 0 ≤ v ∧ v < 4294967296 ∧ Hid (psS (xs.take k) = v) ∧ W = w) (fun _ i _ => n - (intOf i).toNat)
  case atStart => exact ⟨0, 17, Nat.zero_le _, rfl, rfl, by omega, by omega, Lib.hid rfl, rfl⟩
  case round =>
    obtain ⟨k, v, hk, rfl, rfl, h0, h1, HS, rfl⟩ := hrel
    by_cases hlt : k < n
    · have hlt' : (k : Int) < n := by omega
      obtain ⟨ad, rfl, c0, b0, b1⟩ := HX.out.at_ hlt
      have HS2 : Hid (psS (xs.take (k + 1)) = psStep v (nth xs k)) := Lib.hid (by rw [psS_snoc (by rw [HL.out]; exact hlt), HS.out])
      generalize nth xs k = x at *
      have hw : IntKind.u32.wrap (IntKind.u32.wrap (31 * v) + x) = (31 * v + x) % 4294967296 := by
        simp only [IntKind.wrap_u32]
        omega
      have HV : Hid (0 ≤ (31 * v + x) % 4294967296 ∧ (31 * v + x) % 4294967296 < 4294967296) := Lib.hid (by omega)
      go_wp2
      go_roundw
      case rel => exact ⟨k + 1, _, hlt, by go_num, by first | rfl | (congr 1; omega) | congr 1, HV.out.1, HV.out.2, HS2, by first | rfl | trivial⟩
      case measure => simp [intOf]; omega
    · obtain rfl : k = n := by omega
      have HE : Hid (psS xs = v) := Lib.hid (by
        have := HS.out
        rwa [List.take_of_length_le (by rw [HL.out]; exact Nat.le_refl _)] at this)
      go_wp2
      go_ret
      exact ⟨by rw [HE.out]; rfl, rfl⟩
def pb2 (n : Int) : List Int := [n / 256 % 256, n % 256]
def pb4 (n : Int) : List Int := [n / 16777216, n / 65536 % 256, n / 256 % 256, n % 256]
theorem pb_bytes (n : Int) (h0 : 0 ≤ n) (h9 : n < 4294967296) : IsBytes (pb2 n) ∧ IsBytes (pb4 n) := by
  constructor <;>
  · intro x hx
    simp only [pb2, pb4, List.mem_cons, List.not_mem_nil, or_false] at hx
    omega
set_option maxRecDepth 100000 in
set_option maxHeartbeats 1600000 in
theorem pput2 (n : Int) (h0 : 0 ≤ n) (h9 : n < 4294967296) (w : World) : Calls Tryd.prog 24 #[.int .u32 n, .int .i64 2] w fun e w' => ∃ A c, e = .returned (.slice A 2 c) ∧ BOwns w' w.heap.size 5 A 2 c (pb2 n) ∧ Below w.heap.size w w' := by
  have hmk : ∀ W : World, (Instr.makeSlice 35 (.int .i64 2) (.int .i64 2)).run Tryd.prog W = .ok (.slice (some ⟨W.heap.size, 0, none⟩) 2 2) (W.alloc (.cells #[.int .u8 0, .int .u8 0] 5)) := fun W => by kernel_rfl
  go_enter Tryd.func24, Tryd.ntmps24
  go_wp2
  go_rounds 4
  go_ret
  exact ⟨_, _, rfl, BOwns.lit w w.heap.size 5 (pb2 n) _ _ (pb_bytes n h0 h9).1 rfl rfl (Nat.le_refl _) (by decide), (Below.refl _ _).alloc (Nat.le_refl _) _⟩
set_option maxRecDepth 100000 in
set_option maxHeartbeats 1600000 in
theorem pput4 (n : Int) (h0 : 0 ≤ n) (h9 : n < 4294967296) (w : World) : Calls Tryd.prog 24 #[.int .u32 n, .int .i64 4] w fun e w' => ∃ A c, e = .returned (.slice A 4 c) ∧ BOwns w' w.heap.size 5 A 4 c (pb4 n) ∧ Below w.heap.size w w' := by
  have hmk : ∀ W : World, (Instr.makeSlice 35 (.int .i64 4) (.int .i64 4)).run Tryd.prog W = .ok (.slice (some ⟨W.heap.size, 0, none⟩) 4 4) (W.alloc (.cells #[.int .u8 0, .int .u8 0, .int .u8 0, .int .u8 0] 5)) := fun W => by kernel_rfl
  go_enter Tryd.func24, Tryd.ntmps24
  go_wp2
  go_rounds 6
  go_ret
  exact ⟨_, _, rfl, BOwns.lit w w.heap.size 5 (pb4 n) _ _ (pb_bytes n h0 h9).2 rfl rfl (Nat.le_refl _) (by decide), (Below.refl _ _).alloc (Nat.le_refl _) _⟩
def ef5 (e : Ef) : List Int := [b8 e.code, b8 e.tgt, b8 e.n, b8 e.m, b8 e.col]
def encE (l : List Ef) : List Int := (l.length : Int) :: l.flatMap ef5
theorem ef5_bytes (e : Ef) : IsBytes (ef5 e) := by
  have := b8_bytes [e.code, e.tgt, e.n, e.m, e.col]
  exact this
theorem flat_snoc {α : Type} {f : α → List Int} {l : List α} {k : Nat} {x : α} (h : l[k]? = some x) : (l.take (k + 1)).flatMap f = (l.take k).flatMap f ++ f x := by
  have hk : k < l.length := (List.getElem?_eq_some_iff.1 h).1
  rw [List.take_succ_eq_append_getElem hk]
  rw [List.getElem?_eq_getElem hk] at h
  rw [Option.some.inj h]
  simp
set_option maxHeartbeats 1600000 in
theorem eenc_any (s : Sl) (l : List Ef) (w : World) (h : EsR w s l) (hok : efsOk l = true) : Calls Tryd.prog 47 #[s.v l.length] w fun e w' => ∃ A n c, e = .returned (.tuple #[.slice A n c, .int .i64 0]) ∧ BOwns w' w.heap.size 5 A n c (encE l) ∧ Below w.heap.size w w' := by
  have HA := Lib.hid (all_any s l w h)
  obtain ⟨A, c⟩ := s
  obtain ⟨len, hlen⟩ : ∃ n, l.length = n := ⟨_, rfl⟩
  have HL := Lib.hid hlen
  have hlen4 : len ≤ 4 := by
    unfold efsOk at hok
    simp only [Bool.and_eq_true, decide_eq_true_eq] at hok
    omega
  have HX := Lib.hid h
  rw [hok] at HA
  simp only [Sl.v] at HA ⊢
  rw [hlen] at HA ⊢
  clear h hlen hok
  go_enter Tryd.func47, Tryd.ntmps47
  go_wp2_with fail
  refine HA.out.mono ?_
  rintro e w1 ⟨rfl, hb1⟩
  have HB1 := Lib.hid hb1
  have HO1 : Hid (BOwns (w1.alloc (.cells #[.int .u8 (len : Int)] 5)) w.heap.size 5 (some ⟨w1.heap.size, 0, none⟩) 1 1 [(len : Int)]) := Lib.hid (BOwns.lit w1 w.heap.size 5 [(len : Int)] w1.heap.size 1 (fun x hx => by rw [List.mem_singleton] at hx; omega) rfl rfl hb1.size (by decide))
  have HBA : Hid (Below w.heap.size w (w1.alloc (.cells #[.int .u8 (len : Int)] 5))) := Lib.hid (hb1.alloc hb1.size _)
  clear hb1
  go_wp2
  go_loopw [4, 16] (fun v i W => ∃ (k n2 : Nat) (A2 : Option Addr) (c2 : Nat), k ≤ len ∧ i = .int .i64 k ∧ v = .slice A2 n2 c2 ∧ Hid (n2 = 1 + 5 * k) ∧ Hid (BOwns W w.heap.size 5 A2 n2 c2 ((len : Int) :: (l.take k).flatMap ef5)) ∧ Hid (Below w.heap.size w W)) (fun _ i _ => len - (intOf i).toNat)
  case atStart => exact ⟨0, 1, _, 1, Nat.zero_le _, rfl, rfl, Lib.hid rfl, HO1, HBA⟩
  case round =>
    clear HO1 HBA HB1
    obtain ⟨k, n2, A2, c2, hk, rfl, rfl, HN2, HO, HB⟩ := hrel
    by_cases hlt : k < len
    · have hlt' : (k : Int) < len := by omega
      obtain ⟨e, he⟩ := get_of (l := l) (k := k) (by rw [HL.out]; exact hlt)
      have HS := Lib.hid (flat_snoc (f := ef5) he)
      obtain ⟨ad, e9, -, c0, c1, c2', c3, c4⟩ := (HX.out.below HB.out).at_ he (by rw [HL.out]; exact hlt)
      simp only at e9
      subst e9
      have hby := ef5_bytes e
      obtain ⟨code, tgt, n, m, col⟩ := e
      simp only [ef5, b8] at HS hby c0 c1 c2' c3 c4
      have HBY := Lib.hid hby
      have HO1 : Hid (BOwns ((wr.alloc (.cells #[.int .i64 code, .int .i64 tgt, .int .i64 n, .int .i64 m, .int .i64 col] 106)).alloc (.cells #[.int .u8 (code % 256), .int .u8 (tgt % 256), .int .u8 (n % 256), .int .u8 (m % 256), .int .u8 (col % 256)] 5)) w.heap.size 5 A2 n2 c2 ((len : Int) :: (l.take k).flatMap ef5)) := Lib.hid ((HO.out.alloc _).alloc _)
      have HB1 : Hid (Below w.heap.size w ((wr.alloc (.cells #[.int .i64 code, .int .i64 tgt, .int .i64 n, .int .i64 m, .int .i64 col] 106)).alloc (.cells #[.int .u8 (code % 256), .int .u8 (tgt % 256), .int .u8 (n % 256), .int .u8 (m % 256), .int .u8 (col % 256)] 5))) := Lib.hid ((HB.out.alloc HB.out.size _).alloc (HB.out.alloc HB.out.size _).size _)
      have HRD : Hid (BReads ((wr.alloc (.cells #[.int .i64 code, .int .i64 tgt, .int .i64 n, .int .i64 m, .int .i64 col] 106)).alloc (.cells #[.int .u8 (code % 256), .int .u8 (tgt % 256), .int .u8 (n % 256), .int .u8 (m % 256), .int .u8 (col % 256)] 5)) (some ⟨wr.heap.size + 1, 0, none⟩) 5 [code % 256, tgt % 256, n % 256, m % 256, col % 256]) := Lib.hid (BReads.lit (wr.alloc _) 5 [code % 256, tgt % 256, n % 256, m % 256, col % 256] (wr.heap.size + 1) 5 hby (by simp) rfl)
      clear he hby HO HB
      go_wp2_with (first
        | (at_builtin; (refine append_bytes _ rfl (.tmp 20) (.tmp 36) 35 rfl w.heap.size 5 Tryd.info5 Tryd.underlying35 A2 n2 c2 _ rfl HO1.out (some ⟨wr.heap.size + 1, 0, none⟩) 5 5 _ rfl (fun h => by cases h) HRD.out (by have := HN2.out; omega) HB1.out.size ?_); intro A3 c3 w3 ho3 hb3)
        | fail)
      have HO3 : Hid (BOwns w3 w.heap.size 5 A3 (n2 + 5) c3 ((len : Int) :: (l.take (k + 1)).flatMap ef5)) := Lib.hid (by rw [HS.out, ← List.cons_append]; exact ho3)
      have HB3 : Hid (Below w.heap.size w w3) := Lib.hid (HB1.out.trans hb3)
      clear ho3 hb3
      go_wp2
      go_roundw
      case rel => exact ⟨k + 1, n2 + 5, A3, c3, hlt, by go_num, rfl, Lib.hid (by have := HN2.out; omega), HO3, HB3⟩
      case measure => simp [intOf]; omega
    · obtain rfl : k = len := by omega
      have HE : Hid (BOwns wr w.heap.size 5 A2 n2 c2 (encE l)) := Lib.hid (by
        have := HO.out
        rw [List.take_of_length_le (by rw [HL.out]; exact Nat.le_refl _)] at this
        unfold encE
        rw [HL.out]
        exact this)
      clear hk
      go_wp2
      (first | go_ret | go_ret2)
      exact ⟨A2, n2, c2, rfl, HE.out, HB.out⟩
end Go.Proofs.YtpbbemmjodegkaaDoor
