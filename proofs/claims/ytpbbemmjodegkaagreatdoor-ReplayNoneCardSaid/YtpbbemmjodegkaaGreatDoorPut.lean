/-
  replay.put: numbers in groups of seven bits, appended.
-/
import Derived.Test.YtpbbemmjodegkaaGreatDoorRecs
import Derived.Test.YtpbbemmjodegkaaGreatDoorOwn
import Derived.LoopTactic
set_option linter.unusedSimpArgs false
set_option linter.unusedVariables false
namespace Go.Proofs.YtpbbemmjodegkaaGreatDoor
open Go.RowKit

theorem Tryz.info5 : (Tryz.prog.info? 5).map (fun i => (i.zero, i.size, i.bytes)) = some (some (.int .u8 0), 1, 1) := by kernel_rfl

/-- A slice of numbers of 64 bits. -/
def NReads (w : World) (L : Option Addr) (n : Nat) (ns : List Nat) : Prop := Reads w 1 L n (ns.map fun (x : Nat) => Value.int .u64 (x : Int)) ∧ ∀ x ∈ ns, x < 2 ^ 64
theorem NReads.length {w : World} {L : Option Addr} {n : Nat} {ns : List Nat} (h : NReads w L n ns) : ns.length = n := by have := h.1.1; simpa using this
theorem NReads.at_ {w : World} {L : Option Addr} {n : Nat} {ns : List Nat} (h : NReads w L n ns) {k : Nat} (hk : k < n) : ∃ ad x, L = some ad ∧ ns[k]? = some x ∧ x < 2 ^ 64 ∧ w.cell? (ad.add k) = some (.int .u64 x) := by
  obtain ⟨ad, u, e, _, hx, hc⟩ := h.1.at_ hk
  have hl := h.length
  have hg : ns[k]? = some (ns[k]'(by omega)) := List.getElem?_eq_getElem (by omega)
  rw [List.getElem?_map, hg] at hx
  injection hx with hx
  exact ⟨ad, _, e, hg, h.2 _ (List.getElem_mem _), by rw [hc, ← hx]⟩
theorem NReads.grown {w w' : World} {L : Option Addr} {n : Nat} {ns : List Nat} {r : Option Nat} (h : NReads w L n ns) (hg : w.grownBy w' r) (hne : 0 < n → blkOf L ≠ r) : NReads w' L n ns := ⟨h.1.grown hg hne, h.2⟩

theorem or128 (q : Nat) : bits .or .u8 ((q : Int) % 256) 128 = (q : Int) % 128 + 128 := by
  have h : ∀ y : Fin 256, y.val ||| 128 = y.val % 128 + 128 := by decide +kernel
  have h1 := h ⟨q % 256, Nat.mod_lt _ (by decide)⟩
  simp only at h1
  show IntKind.u8.wrap ((BitVec.ofInt 8 ((q : Int) % 256) ||| BitVec.ofInt 8 128).toNat : Int) = _
  rw [BitVec.toNat_or, BitVec.toNat_ofInt, BitVec.toNat_ofInt]
  have e1 : ((q : Int) % 256 % ((2 ^ 8 : Nat) : Int)).toNat = q % 256 := by
    have : ((2 ^ 8 : Nat) : Int) = 256 := by decide
    rw [this]
    omega
  have e2 : ((128 : Int) % ((2 ^ 8 : Nat) : Int)).toNat = 128 := by decide
  rw [e1, e2, h1]
  have e3 : q % 256 % 128 = q % 128 := by omega
  rw [e3]
  simp only [IntKind.wrap_u8]
  omega
/-- A slice that is appended to, behind the literal that holds the one element. -/
theorem put_next {w wr w3 : World} {A0 A1 : Option Addr} {g : Nat} {o : Obj} (hg1 : w.grownBy wr (blkOf A0)) (hs1 : sameOrNew w A0 A1) (hg3 : (wr.alloc o).grownBy w3 (blkOf A1)) (hi : blkOf A1 = some g ∨ g = wr.heap.size + 1) :
    w.grownBy w3 (blkOf A0) ∧ sameOrNew w A0 (some ⟨g, 0, none⟩) := by
  have hz := hg1.size
  refine ⟨grown_trans hg1 (grown_pre ((Below.refl _ _).alloc (Nat.le_refl _) _) hg3) hs1, fun g' hg' => ?_⟩
  have : g = g' := by simpa [blkOf] using hg'
  subst this
  rcases hi with h | h
  · exact hs1 g h
  · exact .inr (by omega)

set_option maxHeartbeats 800000 in
theorem put_any (base : Nat) (A0 : Option Addr) (n0 c0 : Nat) (xs : List Int) (L : Option Addr) (ln lc : Nat) (ns : List Nat) (w : World) (ho : BOwns w base 5 A0 n0 c0 xs) (hL : NReads w L ln ns) (hne : 0 < ln → blkOf L ≠ blkOf A0 ∧ ∀ g, blkOf L = some g → g < w.heap.size)
    (hlen : n0 + 10 * ln ≤ 1000000) (hbase : base ≤ w.heap.size) :
    Calls Tryz.prog 51 #[.slice A0 n0 c0, .slice L ln lc] w fun e w' => ∃ A' n' c', e = .returned (.slice A' n' c') ∧ BOwns w' base 5 A' n' c' (xs ++ ns.flatMap numS) ∧ w.grownBy w' (blkOf A0) ∧ sameOrNew w A0 A' := by
  have HL := Lib.hid hL
  have HN := Lib.hid hne
  have hnl := hL.length
  have HNL := Lib.hid hnl
  clear hL hne hnl
  go_enter Tryz.func51, Tryz.ntmps51
  go_wp2
  go_loopw [0, 9] (fun v i W => ∃ (k : Nat) (A : Option Addr) (n c : Nat), k ≤ ln ∧ i = .int .i64 k ∧ v = .slice A n c ∧ BOwns W base 5 A n c (xs ++ (ns.take k).flatMap numS) ∧ n ≤ n0 + 10 * k ∧ w.grownBy W (blkOf A0) ∧ sameOrNew w A0 A) (fun _ i _ => ln - (intOf i).toNat)
  case atStart => exact ⟨0, A0, n0, c0, Nat.zero_le _, rfl, rfl, by simpa using ho, by omega, only_refl _ _, sameOrNew.refl _ _⟩
  case round =>
    obtain ⟨k, A, n, c, hk, rfl, rfl, hown, hnb, hg, hs⟩ := hrel
    by_cases hlt : k < ln
    · obtain ⟨ad, x, e, hx, hx64, hc⟩ := ((HL.out).grown hg (fun h => (HN.out h).1)).at_ hlt
      subst e
      have hlt' : (k : Int) < ln := by omega
      have hz := hg.size
      have HT : Hid ((ns.take (k + 1)).flatMap numS = (ns.take k).flatMap numS ++ numS x) := Lib.hid (by
        have hkl : k < ns.length := by have := HNL.out; omega
        rw [List.take_succ_eq_append_getElem hkl, List.flatMap_append]
        rw [List.getElem?_eq_getElem hkl] at hx
        injection hx with hx
        simp [hx])
      have HL10 := Lib.hid (numS_len10 hx64)
      clear hx
      generalize hxs : xs ++ (ns.take k).flatMap numS = ys at *
      have HXS := Lib.hid hxs
      clear hxs
      go_wp2
      go_loopw [0, 6] (fun v i W => ∃ (q : Nat) (zs : List Int) (A : Option Addr) (m c : Nat), i = .int .u64 q ∧ v = .slice A m c ∧ BOwns W base 5 A m c (ys ++ zs) ∧ Hid (zs ++ numS q = numS x) ∧ w.grownBy W (blkOf A0) ∧ sameOrNew w A0 A ∧ q < 18446744073709551616 ∧ m = n + zs.length) (fun _ i _ => (intOf i).toNat)
      case atStart => exact ⟨x, [], A, n, c, rfl, rfl, by simpa using hown, Lib.hid (by simp), hg, hs, hx64, by simp⟩
      case round =>
        obtain ⟨q, zs, A1, m1, c1, rfl, rfl, hown1, HZ, hg1, hs1, hq, rfl⟩ := hrel
        have hz1 := hg1.size
        have hzl : zs.length ≤ 9 := by
          have h1 := congrArg List.length HZ.out
          have h2 := numS_pos q
          rw [List.length_append] at h1
          have := HL10.out
          omega
        by_cases h128 : 128 ≤ q
        · have h127 : (127 : Int) < q := by omega
          have hor := or128 q
          go_wp2_with (at_builtin; refine append_bytes_at _ rfl (.tmp 17) (.tmp 21) 36 rfl base 5 Tryz.info5 Tryz.underlying36 A1 (n + zs.length) c1 (ys ++ zs) rfl (hown1.alloc _) (some ⟨wr.heap.size, 0, none⟩) 1 1 [(q : Int) % 128 + 128] rfl ?_ (by decide) ?_ ?_ (wr.heap.size + 1) ?_ ?_; exact BReads.lit _ _ [(q : Int) % 128 + 128] _ _ (fun y hy => by (rw [List.mem_singleton] at hy; subst hy; exact ⟨by omega, by omega⟩)) rfl rfl; omega; (focus (first | omega | (simp only [World.size_alloc]; done) | (simp only [World.size_alloc]; omega) | (simp; done) | (simp; omega))); simp; intro g2 c2 w3 ho3 hg3 hi3 hlt3)
          obtain ⟨hgn, hsn⟩ := put_next hg1 hs1 hg3 hi3
          go_roundw
          case rel => exact ⟨q / 128, zs ++ [(q : Int) % 128 + 128], some ⟨g2, 0, none⟩, n + zs.length + 1, c2, by go_num, rfl, by simpa using ho3, Lib.hid (by rw [← HZ.out, numS_ge h128]; simp), hgn, hsn, by omega, by simp; omega⟩
          case measure => simp [intOf]; omega
        · have h127 : ¬ (127 : Int) < q := by omega
          go_wp2_with (at_builtin; refine append_bytes_at _ rfl (.tmp 23) (.tmp 26) 36 rfl base 5 Tryz.info5 Tryz.underlying36 A1 (n + zs.length) c1 (ys ++ zs) rfl (hown1.alloc _) (some ⟨wr.heap.size, 0, none⟩) 1 1 [(q : Int)] rfl ?_ (by decide) ?_ ?_ (wr.heap.size + 1) ?_ ?_; exact BReads.lit _ _ [(q : Int)] _ _ (fun y hy => by (rw [List.mem_singleton] at hy; subst hy; exact ⟨by omega, by omega⟩)) rfl rfl; omega; (focus (first | omega | (simp only [World.size_alloc]; done) | (simp only [World.size_alloc]; omega) | (simp; done) | (simp; omega))); simp; intro g2 c2 w3 ho3 hg3 hi3 hlt3)
          obtain ⟨hgn, hsn⟩ := put_next hg1 hs1 hg3 hi3
          go_roundw
          case rel => exact ⟨k + 1, some ⟨g2, 0, none⟩, n + zs.length + 1, c2, by omega, by go_num, rfl, by rw [HT.out, ← HZ.out, numS_lt (by omega), ← List.append_assoc, HXS.out, ← List.append_assoc]; exact ho3, by omega, hgn, hsn⟩
          case measure => simp [intOf]; omega
    · obtain rfl : k = ln := by omega
      go_wp2
      go_ret
      refine ⟨A, n, c, rfl, ?_, hg, hs⟩
      rw [List.take_of_length_le (by rw [HNL.out]; exact Nat.le_refl _)] at hown
      exact hown
end Go.Proofs.YtpbbemmjodegkaaGreatDoor
