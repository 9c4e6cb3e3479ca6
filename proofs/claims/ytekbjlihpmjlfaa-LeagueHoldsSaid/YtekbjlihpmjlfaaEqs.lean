/-
  The law's comparisons, where both sides are the same; forms; some.
-/
import Derived.Test.YtekbjlihpmjlfaaFrm
import Derived.Test.YtekbjlihpmjlfaaCrs
set_option linter.unusedSimpArgs false
set_option linter.unusedVariables false
namespace Go.Proofs.Ytekbjlihpmjlfaa
open Go.RowKit

set_option maxHeartbeats 800000 in
theorem ints_same {A B : Option Addr} {n c c' : Nat} (xs : List Int) (w : World) (hx : Reads w 1 A n (ics xs)) (hy : Reads w 1 B n (ics xs)) (hn : n ≤ 1000000) :
    Calls Try.prog 17 #[.slice A n c, .slice B n c'] w fun e w' => e = .returned (.bool true) ∧ Below w.heap.size w w' := by
  have HX := Lib.hid hx
  have HY := Lib.hid hy
  clear hx hy
  go_enter Try.func17, Try.ntmps17
  go_wp2
  go_loopw [5] (fun i W => ∃ k : Nat, k ≤ n ∧ i = .int .i64 k ∧ Below w.heap.size w W) (fun i _ => n - (intOf i).toNat)
  case atStart => exact ⟨0, Nat.zero_le _, rfl, Below.refl _ _⟩
  case round =>
    obtain ⟨k, hk, rfl, hB⟩ := hrel
    by_cases hlt : k < n
    · obtain ⟨ad, rfl, -, c0⟩ := int_at (HX.out.below hB) hlt
      obtain ⟨bd, rfl, -, d0⟩ := int_at (HY.out.below hB) hlt
      have hlt' : (k : Int) < n := by omega
      generalize ith xs k = z at *
      go_wp2
      go_quiet (fail)
      go_wp2
      go_roundw
      case rel => exact ⟨k + 1, by omega, by go_num, below_drew_ hB nq⟩
      case measure => simp [intOf]; omega
    · obtain rfl : k = n := by omega
      go_wp2
      go_ret
      exact ⟨rfl, hB⟩
theorem row_at {w : World} {A : Option Addr} {n : Nat} {l : List Rw} (h : Reads w 6 A n (rcells l)) {k : Nat} (hk : k < n) : ∃ ad, A = some ad ∧
    w.cell? (ad.add (k * 6)) = some (.int .i64 (rth l k).pl) ∧ w.cell? ⟨(ad.add (k * 6)).block, (ad.add (k * 6)).off + 1, none⟩ = some (.int .i64 (rth l k).pt) ∧ w.cell? ⟨(ad.add (k * 6)).block, (ad.add (k * 6)).off + 2, none⟩ = some (.int .i64 (rth l k).am) ∧
    w.cell? ⟨(ad.add (k * 6)).block, (ad.add (k * 6)).off + 3, none⟩ = some (.int .i64 (rth l k).wi) ∧ w.cell? ⟨(ad.add (k * 6)).block, (ad.add (k * 6)).off + 4, none⟩ = some (.int .i64 (rth l k).dr) ∧ w.cell? ⟨(ad.add (k * 6)).block, (ad.add (k * 6)).off + 5, none⟩ = some (.int .i64 (rth l k).lo) := by
  have hln : l.length = n := by have := h.1; rw [rcells_len] at this; omega
  have hr : RowR w 6 A n (l.map Rw.cells) := ⟨by simpa [rcells, List.flatMap] using h, fun r hr => by obtain ⟨m, _, rfl⟩ := List.mem_map.1 hr; rfl, by rw [List.length_map]; exact hln⟩
  obtain ⟨ad, r, e, hb, hr, _, hc⟩ := RowR.at_ hr hk
  rw [List.getElem?_map, rth_get (by omega)] at hr
  simp only [Option.map_some, Option.some.injEq] at hr
  subst hr
  exact ⟨ad, e, hc 0 _ rfl, part_at 0 (hc 1 _ rfl), part_at 1 (hc 2 _ rfl), part_at 2 (hc 3 _ rfl), part_at 3 (hc 4 _ rfl), part_at 4 (hc 5 _ rfl)⟩
theorem neq_row (a b c d e f : Int) (W : World) : (binOp .neq 33 (.agg #[.int .i64 a, .int .i64 b, .int .i64 c, .int .i64 d, .int .i64 e, .int .i64 f]) (.agg #[.int .i64 a, .int .i64 b, .int .i64 c, .int .i64 d, .int .i64 e, .int .i64 f])).run Try.prog W = .ok (.bool false) W := by
  have h72 : Try.prog.underlying 33 = some (.struct (Try.prog.fieldsOf 33)) := by kernel_rfl
  have p72 : Try.prog.stoodInHeld 33 = false := by kernel_rfl
  rw [run_neq_struct, run_equalIn_agg W 9999 33 _ _ h72 p72]
  simp [Program.fieldsOf, Try.underlying33, Op.eqFields, go_sem]
set_option maxHeartbeats 1600000 in
theorem rows_same {A B : Option Addr} {n c c' : Nat} (xs : List Rw) (w : World) (hx : Reads w 6 A n (rcells xs)) (hy : Reads w 6 B n (rcells xs)) (hn : n ≤ 1000000) :
    Calls Try.prog 13 #[.slice A n c, .slice B n c'] w fun e w' => e = .returned (.bool true) ∧ Below w.heap.size w w' := by
  have HX := Lib.hid hx
  have HY := Lib.hid hy
  clear hx hy
  go_enter Try.func13, Try.ntmps13
  go_wp2
  go_loopw [5] (fun i W => ∃ k : Nat, k ≤ n ∧ i = .int .i64 k ∧ Below w.heap.size w W) (fun i _ => n - (intOf i).toNat)
  case atStart => exact ⟨0, Nat.zero_le _, rfl, Below.refl _ _⟩
  case round =>
    obtain ⟨k, hk, rfl, hB⟩ := hrel
    by_cases hlt : k < n
    · obtain ⟨ad, rfl, c0, c1, c2, c3, c4, c5⟩ := row_at (HX.out.below hB) hlt
      obtain ⟨bd, rfl, d0, d1, d2, d3, d4, d5⟩ := row_at (HY.out.below hB) hlt
      have hlt' : (k : Int) < n := by omega
      generalize rth xs k = r at *
      obtain ⟨a1, a2, a3, a4, a5, a6⟩ := r
      simp only at c0 c1 c2 c3 c4 c5 d0 d1 d2 d3 d4 d5
      have hnq := neq_row a1 a2 a3 a4 a5 a6
      have hgd : Try.prog.eqGuardType Try.prog.depth 33 = false := by kernel_rfl
      go_wp2
      go_quiet (fail)
      clear hnq
      go_wp2
      go_roundw
      case rel => exact ⟨k + 1, by omega, by go_num, below_drew_ hB nq⟩
      case measure => simp [intOf]; omega
    · obtain rfl : k = n := by omega
      go_wp2
      go_ret
      exact ⟨rfl, hB⟩
set_option maxHeartbeats 800000 in
theorem forms_bad (n : Int) (A : Option Addr) (len c : Nat) (l : List Gm) (p m no : Int) (w : World) (hx : Reads w 3 A len (gcells l)) (he : (errS n l ≠ 0 ∧ errS n l = no) ∨ (errS n l = 0 ∧ (p < 0 ∨ n ≤ p ∨ m < 0) ∧ no = 2)) :
    Calls Try.prog 15 #[.int .i64 n, .slice A len c, .int .i64 p, .int .i64 m, .slice none 0 0, .int .i64 no] w fun e w' => e = .returned (.bool true) ∧ Below w.heap.size w w' := by
  have HC : Hid (∀ W, Below w.heap.size w W → Calls Try.prog 30 #[.int .i64 n, .slice A len c, .int .i64 p, .int .i64 m] W fun e w' => e = .returned (.tuple #[.slice none 0 0, .int .i64 no]) ∧ Below W.heap.size W w') := Lib.hid fun W hb => by
    rcases he with ⟨h1, rfl⟩ | ⟨h1, h2, rfl⟩
    · exact form_bad n A len c l p m W (hx.below hb) h1
    · exact form_arg n A len c l p m W (hx.below hb) h1 h2
  clear hx he
  go_enter Try.func15, Try.ntmps15
  go_wp2_with fail
  refine (HC.out _ (by (focus (repeat' (first | (with_reducible exact Below.refl _ _) | (with_reducible assumption) | (with_reducible refine Below.alloc ?_ ?_ _) | (with_reducible refine below_drewN ?_ _) | (with_reducible refine Below.drew ?_) | (with_reducible refine Below.setCell ?_ ?_ _) | omega | (simp; done) | (simp; omega)))))).mono ?_
  rintro e w1 ⟨rfl, hb1⟩
  go_wp2
  go_loopw [15] (fun i W => i = .int .i64 0 ∧ Below w.heap.size w W) (fun _ _ => 0)
  case atStart => exact ⟨rfl, hb1⟩
  case round =>
    obtain ⟨rfl, hB⟩ := hrel
    go_wp2
    go_ret
    exact ⟨rfl, hB⟩
set_option maxHeartbeats 800000 in
theorem forms_ok (n : Nat) (A : Option Addr) (len c : Nat) (l : List Gm) (p m : Int) (Aw : Option Addr) (cw : Nat) (w : World) (hx : Reads w 3 A len (gcells l)) (he : errS n l = 0) (hp : 0 ≤ p ∧ p < n) (hm : 0 ≤ m ∧ m ≤ 9223372036854775807) (hw : Reads w 1 Aw (lastS (frmS l p) m).length (ics (lastS (frmS l p) m))) :
    Calls Try.prog 15 #[.int .i64 n, .slice A len c, .int .i64 p, .int .i64 m, .slice Aw (lastS (frmS l p) m).length cw, .int .i64 0] w fun e w' => e = .returned (.bool true) ∧ Below w.heap.size w w' := by
  have HC : Hid (Calls Try.prog 30 #[.int .i64 n, .slice A len c, .int .i64 p, .int .i64 m] w (FormEnd (lastS (frmS l p) m) w)) := Lib.hid (form_ok n A len c l p m w hx he hp hm)
  have hln : (lastS (frmS l p) m).length ≤ 100000 := by
    have h1 := frmS_len l p
    have h2 := (errS_zero he).1
    unfold lastS
    rw [List.length_drop]
    omega
  have HW := Lib.hid hw
  clear hx he hp hm hw
  generalize lastS (frmS l p) m = L at *
  obtain ⟨k0, hk0⟩ : ∃ k, L.length = k := ⟨_, rfl⟩
  have HK0 := Lib.hid hk0
  rw [hk0] at HW hln ⊢
  clear hk0
  go_enter Try.func15, Try.ntmps15
  go_wp2_with fail
  refine HC.out.mono ?_
  rintro e w1 ⟨A1, c1, rfl, ho1, hb1⟩
  rw [HK0.out] at ho1 ⊢
  have HO1 := Lib.hid ho1
  have hz1 := hb1.size
  clear ho1
  go_wp2
  go_loopw [15] (fun i W => ∃ k : Nat, k ≤ k0 ∧ i = .int .i64 k ∧ Below w1.heap.size w1 W) (fun i _ => k0 - (intOf i).toNat)
  case atStart => exact ⟨0, Nat.zero_le _, rfl, Below.refl _ _⟩
  case round =>
    obtain ⟨k, hk, rfl, hB⟩ := hrel
    by_cases hlt : k < k0
    · obtain ⟨ad, rfl, -, c0⟩ := int_at (HO1.out.below hB).reads hlt
      obtain ⟨bd, rfl, -, d0⟩ := int_at ((HW.out.below hb1).below hB) hlt
      have hlt' : (k : Int) < k0 := by omega
      generalize ith L k = z at *
      go_wp2
      go_quiet (fail)
      go_wp2
      go_roundw
      case rel => exact ⟨k + 1, by omega, by go_num, below_drew_ hB nq⟩
      case measure => simp [intOf]; omega
    · obtain rfl : k = k0 := by omega
      go_wp2
      go_ret
      exact ⟨rfl, below_call hb1 hB hz1⟩
/-- The chapter's games. -/
def someG : List Gm := [⟨0, 1, 1⟩, ⟨1, 2, 1⟩, ⟨2, 0, 1⟩, ⟨3, 0, 3⟩]
theorem some_any (w : World) : Calls Try.prog 21 #[] w fun e w' => e = .returned (.slice (some ⟨w.heap.size, 0, none⟩) 4 4) ∧ Reads w' 3 (some ⟨w.heap.size, 0, none⟩) 4 (gcells someG) ∧ Below w.heap.size w w' := by
  go_enter Try.func21, Try.ntmps21
  go_wp2
  go_ret
  exact ⟨rfl, reads_block (Blk.mk_ w 30 #[.int .i64 0, .int .i64 1, .int .i64 1, .int .i64 1, .int .i64 2, .int .i64 1, .int .i64 2, .int .i64 0, .int .i64 1, .int .i64 3, .int .i64 0, .int .i64 3] _ rfl) 3 4 rfl, by (focus (repeat' (first | (with_reducible exact Below.refl _ _) | (with_reducible assumption) | (with_reducible refine Below.alloc ?_ ?_ _) | (with_reducible refine below_drewN ?_ _) | (with_reducible refine Below.drew ?_) | (with_reducible refine Below.setCell ?_ ?_ _) | omega | (simp; done) | (simp; omega))))⟩
end Go.Proofs.Ytekbjlihpmjlfaa
