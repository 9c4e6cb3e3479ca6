/-
  BoundNumbers: for every configuration the statement BoundNumbers answers true; no condition.
-/
import Derived.Test.YtleckpoppmecdaaKnown
import Derived.Test.YtleckpoppmecdaaOpen
import Derived.Deep.RegionHeld3
import Derived.Deep.QuietTactic
import Derived.BigQuiet
import Derived.BigRegion
import Derived.ProofKit
import Derived.OpenShut
import Derived.ShutString
import Derived.ChangeOld
import Derived.Below
import Derived.Lib.SmallJoins
set_option linter.unusedSimpArgs false
set_option linter.unusedVariables false
namespace Go.Proofs.Ytleckpoppmecdaa.boundNumbers
open Go.Joins Go.ChangeShapes Go.WideShapes Go.ChangeAt Go.RowKit
open Go.ChangeMaps (open_string shut_string)

theorem small_of (c : Cfg) (b : Bool) (h : smallB c = b) (w : World) :
    Calls Try.prog 6 #[.agg #[.int .i64 c.l, .int .i64 c.m, .int .i64 c.a, .int .i64 c.o, .int .i64 c.t, .int .i64 c.c, .int .u64 c.rope, .int .u64 c.bank, .int .u64 c.bonus, .int .u64 c.most, .int .i64 c.str, .int .u64 c.gr, .string c.s0, .string c.s1, .int .i64 c.mi, .int .i64 c.ke]] w fun e w' => e = .returned (.bool b) ∧ Below w.heap.size w w' := h ▸ small_any c w
theorem allowed_of (c : Cfg) (b : Bool) (h : okB c = b) (w : World) :
    Calls Try.prog 8 #[.agg #[.int .i64 c.l, .int .i64 c.m, .int .i64 c.a, .int .i64 c.o, .int .i64 c.t, .int .i64 c.c, .int .u64 c.rope, .int .u64 c.bank, .int .u64 c.bonus, .int .u64 c.most, .int .i64 c.str, .int .u64 c.gr, .string c.s0, .string c.s1, .int .i64 c.mi, .int .i64 c.ke]] w fun e w' => e = .returned (.bool b) ∧ Below w.heap.size w w' := h ▸ allowed_any c w

set_option maxHeartbeats 800000 in
theorem walk_big (c : Cfg) (w : World) (hs : smallB c = false) :
    Calls Try.prog 3 #[.agg #[.int .i64 c.l, .int .i64 c.m, .int .i64 c.a, .int .i64 c.o, .int .i64 c.t, .int .i64 c.c, .int .u64 c.rope, .int .u64 c.bank, .int .u64 c.bonus, .int .u64 c.most, .int .i64 c.str, .int .u64 c.gr, .string c.s0, .string c.s1, .int .i64 c.mi, .int .i64 c.ke]] w fun e w' => e = .returned (.bool true) ∧ Below w.heap.size w w' := by
  have HS := Lib.hid hs
  clear hs
  go_enter Try.func3, Try.ntmps3
  go_wp2_with (first
    | (go_at_call 6; refine (small_of c _ HS.out _).mono ?_; rintro e w1 ⟨rfl, hb1⟩; have hB1 : Below w.heap.size w w1 := below_call (by (focus (repeat' (first | (with_reducible exact Below.refl _ _) | (with_reducible assumption) | (with_reducible refine Below.alloc ?_ ?_ _) | (with_reducible refine below_drewN ?_ _) | (with_reducible refine Below.drew ?_) | (with_reducible refine Below.setCell ?_ ?_ _) | omega | (simp; done) | (simp; omega))))) hb1 (by (focus (first | omega | (simp only [World.size_alloc]; done) | (simp only [World.size_alloc]; omega) | (simp; done) | (simp; omega)))); clear hb1)
    | (go_at_call 7; refine (known_any _).mono ?_; rintro e w2 ⟨rfl, hb2⟩; have hB2 : Below w.heap.size w w2 := below_call hB1 hb2 hB1.size; clear hb2)
    | fail)
  go_returns
  exact ⟨rfl, hB2⟩

set_option maxHeartbeats 800000 in
theorem walk_no (c : Cfg) (w : World) (hp : 0 ≤ c.bank ∧ 0 ≤ c.bonus) (hs : smallB c = true) (ho : okB c = false) :
    Calls Try.prog 3 #[.agg #[.int .i64 c.l, .int .i64 c.m, .int .i64 c.a, .int .i64 c.o, .int .i64 c.t, .int .i64 c.c, .int .u64 c.rope, .int .u64 c.bank, .int .u64 c.bonus, .int .u64 c.most, .int .i64 c.str, .int .u64 c.gr, .string c.s0, .string c.s1, .int .i64 c.mi, .int .i64 c.ke]] w fun e w' => e = .returned (.bool true) ∧ Below w.heap.size w w' := by
  have HS := Lib.hid hs
  have HNO := Lib.hid ho
  clear hs ho
  go_enter Try.func3, Try.ntmps3
  go_wp2_with (first
    | (go_at_call 6; refine (small_of c _ HS.out _).mono ?_; rintro e w1 ⟨rfl, hb1⟩; have hk1 := keep_at hb1 w.heap.size (by simp); have hB1 : Below w.heap.size w w1 := below_call (by (focus (repeat' (first | (with_reducible exact Below.refl _ _) | (with_reducible assumption) | (with_reducible refine Below.alloc ?_ ?_ _) | (with_reducible refine below_drewN ?_ _) | (with_reducible refine Below.drew ?_) | (with_reducible refine Below.setCell ?_ ?_ _) | omega | (simp; done) | (simp; omega))))) hb1 (by (focus (first | omega | (simp only [World.size_alloc]; done) | (simp only [World.size_alloc]; omega) | (simp; done) | (simp; omega)))); have hZ1 : w.heap.size < w1.heap.size := (by have := hb1.size; simp at this; omega); clear hb1)
    | (go_at_call 8; refine (allowed_of c _ HNO.out _).mono ?_; rintro e w3 ⟨rfl, hb3⟩; have hk3 := keep_at hb3 w.heap.size hZ1; have hB3 : Below w.heap.size w w3 := below_call hB1 hb3 hB1.size; have hZ3 : w.heap.size < w3.heap.size := (by have := hb3.size; omega); clear hb3)
    | (go_at_call 9; refine (numbers_no c _ hp HNO.out).mono ?_; rintro e w4 ⟨rfl, hb4⟩; have hB4 : Below w.heap.size w w4 := below_call hB3 hb4 hB3.size; clear hb4)
    | (go_at_call 7; refine (known_any _).mono ?_; rintro e w5 ⟨rfl, hb5⟩; have hB5 : Below w.heap.size w w5 := below_call hB4 hb5 hB4.size; clear hb5)
    | fail)
  go_returns
  exact ⟨rfl, hB5⟩

set_option maxHeartbeats 800000 in
theorem walk_ok (c : Cfg) (w : World) (hp : 0 ≤ c.bank ∧ 0 ≤ c.bonus) (hs : smallB c = true) (ho : okB c = true) :
    Calls Try.prog 3 #[.agg #[.int .i64 c.l, .int .i64 c.m, .int .i64 c.a, .int .i64 c.o, .int .i64 c.t, .int .i64 c.c, .int .u64 c.rope, .int .u64 c.bank, .int .u64 c.bonus, .int .u64 c.most, .int .i64 c.str, .int .u64 c.gr, .string c.s0, .string c.s1, .int .i64 c.mi, .int .i64 c.ke]] w fun e w' => e = .returned (.bool true) ∧ Below w.heap.size w w' := by
  have HS := Lib.hid hs
  have HNO := Lib.hid ho
  have HK : Hid (∀ W W' : World, (W.cell? ⟨w.heap.size, 0, none⟩ = some (.int .i64 c.l) ∧ W.cell? ⟨w.heap.size, 1, none⟩ = some (.int .i64 c.m) ∧ W.cell? ⟨w.heap.size, 2, none⟩ = some (.int .i64 c.a) ∧ W.cell? ⟨w.heap.size, 3, none⟩ = some (.int .i64 c.o) ∧ W.cell? ⟨w.heap.size, 4, none⟩ = some (.int .i64 c.t) ∧ W.cell? ⟨w.heap.size, 5, none⟩ = some (.int .i64 c.c) ∧ W.cell? ⟨w.heap.size, 6, none⟩ = some (.int .u64 c.rope) ∧ W.cell? ⟨w.heap.size, 7, none⟩ = some (.int .u64 c.bank) ∧ W.cell? ⟨w.heap.size, 8, none⟩ = some (.int .u64 c.bonus) ∧ W.cell? ⟨w.heap.size, 9, none⟩ = some (.int .u64 c.most) ∧ W.cell? ⟨w.heap.size, 10, none⟩ = some (.int .i64 c.str) ∧ W.cell? ⟨w.heap.size, 11, none⟩ = some (.int .u64 c.gr) ∧ W.cell? ⟨w.heap.size, 12, none⟩ = some (.string c.s0) ∧ W.cell? ⟨w.heap.size, 13, none⟩ = some (.string c.s1) ∧ W.cell? ⟨w.heap.size, 14, none⟩ = some (.int .i64 c.mi) ∧ W.cell? ⟨w.heap.size, 15, none⟩ = some (.int .i64 c.ke) ∧ w.heap.size + 1 ≤ W.heap.size ∧ Below w.heap.size w W) → Below W.heap.size W W' → (W'.cell? ⟨w.heap.size, 0, none⟩ = some (.int .i64 c.l) ∧ W'.cell? ⟨w.heap.size, 1, none⟩ = some (.int .i64 c.m) ∧ W'.cell? ⟨w.heap.size, 2, none⟩ = some (.int .i64 c.a) ∧ W'.cell? ⟨w.heap.size, 3, none⟩ = some (.int .i64 c.o) ∧ W'.cell? ⟨w.heap.size, 4, none⟩ = some (.int .i64 c.t) ∧ W'.cell? ⟨w.heap.size, 5, none⟩ = some (.int .i64 c.c) ∧ W'.cell? ⟨w.heap.size, 6, none⟩ = some (.int .u64 c.rope) ∧ W'.cell? ⟨w.heap.size, 7, none⟩ = some (.int .u64 c.bank) ∧ W'.cell? ⟨w.heap.size, 8, none⟩ = some (.int .u64 c.bonus) ∧ W'.cell? ⟨w.heap.size, 9, none⟩ = some (.int .u64 c.most) ∧ W'.cell? ⟨w.heap.size, 10, none⟩ = some (.int .i64 c.str) ∧ W'.cell? ⟨w.heap.size, 11, none⟩ = some (.int .u64 c.gr) ∧ W'.cell? ⟨w.heap.size, 12, none⟩ = some (.string c.s0) ∧ W'.cell? ⟨w.heap.size, 13, none⟩ = some (.string c.s1) ∧ W'.cell? ⟨w.heap.size, 14, none⟩ = some (.int .i64 c.mi) ∧ W'.cell? ⟨w.heap.size, 15, none⟩ = some (.int .i64 c.ke) ∧ w.heap.size + 1 ≤ W'.heap.size ∧ Below w.heap.size w W')) := by
    intro W W' ⟨h0, h1, h2, h3, h4, h5, h6, h7, h8, h9, h10, h11, h12, h13, h14, h15, hz, hB⟩ hb
    have hz' := hb.size
    have c0 := keep_at hb (w.heap.size) (by omega)
    exact ⟨(c0 _).trans h0, (c0 _).trans h1, (c0 _).trans h2, (c0 _).trans h3, (c0 _).trans h4, (c0 _).trans h5, (c0 _).trans h6, (c0 _).trans h7, (c0 _).trans h8, (c0 _).trans h9, (c0 _).trans h10, (c0 _).trans h11, (c0 _).trans h12, (c0 _).trans h13, (c0 _).trans h14, (c0 _).trans h15, by omega, below_call hB hb (by omega)⟩
  have HE0 : Hid ((w.alloc (.cells #[.int .i64 c.l, .int .i64 c.m, .int .i64 c.a, .int .i64 c.o, .int .i64 c.t, .int .i64 c.c, .int .u64 c.rope, .int .u64 c.bank, .int .u64 c.bonus, .int .u64 c.most, .int .i64 c.str, .int .u64 c.gr, .string c.s0, .string c.s1, .int .i64 c.mi, .int .i64 c.ke] 32)).cell? ⟨w.heap.size, 0, none⟩ = some (.int .i64 c.l) ∧ (w.alloc (.cells #[.int .i64 c.l, .int .i64 c.m, .int .i64 c.a, .int .i64 c.o, .int .i64 c.t, .int .i64 c.c, .int .u64 c.rope, .int .u64 c.bank, .int .u64 c.bonus, .int .u64 c.most, .int .i64 c.str, .int .u64 c.gr, .string c.s0, .string c.s1, .int .i64 c.mi, .int .i64 c.ke] 32)).cell? ⟨w.heap.size, 1, none⟩ = some (.int .i64 c.m) ∧ (w.alloc (.cells #[.int .i64 c.l, .int .i64 c.m, .int .i64 c.a, .int .i64 c.o, .int .i64 c.t, .int .i64 c.c, .int .u64 c.rope, .int .u64 c.bank, .int .u64 c.bonus, .int .u64 c.most, .int .i64 c.str, .int .u64 c.gr, .string c.s0, .string c.s1, .int .i64 c.mi, .int .i64 c.ke] 32)).cell? ⟨w.heap.size, 2, none⟩ = some (.int .i64 c.a) ∧ (w.alloc (.cells #[.int .i64 c.l, .int .i64 c.m, .int .i64 c.a, .int .i64 c.o, .int .i64 c.t, .int .i64 c.c, .int .u64 c.rope, .int .u64 c.bank, .int .u64 c.bonus, .int .u64 c.most, .int .i64 c.str, .int .u64 c.gr, .string c.s0, .string c.s1, .int .i64 c.mi, .int .i64 c.ke] 32)).cell? ⟨w.heap.size, 3, none⟩ = some (.int .i64 c.o) ∧ (w.alloc (.cells #[.int .i64 c.l, .int .i64 c.m, .int .i64 c.a, .int .i64 c.o, .int .i64 c.t, .int .i64 c.c, .int .u64 c.rope, .int .u64 c.bank, .int .u64 c.bonus, .int .u64 c.most, .int .i64 c.str, .int .u64 c.gr, .string c.s0, .string c.s1, .int .i64 c.mi, .int .i64 c.ke] 32)).cell? ⟨w.heap.size, 4, none⟩ = some (.int .i64 c.t) ∧ (w.alloc (.cells #[.int .i64 c.l, .int .i64 c.m, .int .i64 c.a, .int .i64 c.o, .int .i64 c.t, .int .i64 c.c, .int .u64 c.rope, .int .u64 c.bank, .int .u64 c.bonus, .int .u64 c.most, .int .i64 c.str, .int .u64 c.gr, .string c.s0, .string c.s1, .int .i64 c.mi, .int .i64 c.ke] 32)).cell? ⟨w.heap.size, 5, none⟩ = some (.int .i64 c.c) ∧ (w.alloc (.cells #[.int .i64 c.l, .int .i64 c.m, .int .i64 c.a, .int .i64 c.o, .int .i64 c.t, .int .i64 c.c, .int .u64 c.rope, .int .u64 c.bank, .int .u64 c.bonus, .int .u64 c.most, .int .i64 c.str, .int .u64 c.gr, .string c.s0, .string c.s1, .int .i64 c.mi, .int .i64 c.ke] 32)).cell? ⟨w.heap.size, 6, none⟩ = some (.int .u64 c.rope) ∧ (w.alloc (.cells #[.int .i64 c.l, .int .i64 c.m, .int .i64 c.a, .int .i64 c.o, .int .i64 c.t, .int .i64 c.c, .int .u64 c.rope, .int .u64 c.bank, .int .u64 c.bonus, .int .u64 c.most, .int .i64 c.str, .int .u64 c.gr, .string c.s0, .string c.s1, .int .i64 c.mi, .int .i64 c.ke] 32)).cell? ⟨w.heap.size, 7, none⟩ = some (.int .u64 c.bank) ∧ (w.alloc (.cells #[.int .i64 c.l, .int .i64 c.m, .int .i64 c.a, .int .i64 c.o, .int .i64 c.t, .int .i64 c.c, .int .u64 c.rope, .int .u64 c.bank, .int .u64 c.bonus, .int .u64 c.most, .int .i64 c.str, .int .u64 c.gr, .string c.s0, .string c.s1, .int .i64 c.mi, .int .i64 c.ke] 32)).cell? ⟨w.heap.size, 8, none⟩ = some (.int .u64 c.bonus) ∧ (w.alloc (.cells #[.int .i64 c.l, .int .i64 c.m, .int .i64 c.a, .int .i64 c.o, .int .i64 c.t, .int .i64 c.c, .int .u64 c.rope, .int .u64 c.bank, .int .u64 c.bonus, .int .u64 c.most, .int .i64 c.str, .int .u64 c.gr, .string c.s0, .string c.s1, .int .i64 c.mi, .int .i64 c.ke] 32)).cell? ⟨w.heap.size, 9, none⟩ = some (.int .u64 c.most) ∧ (w.alloc (.cells #[.int .i64 c.l, .int .i64 c.m, .int .i64 c.a, .int .i64 c.o, .int .i64 c.t, .int .i64 c.c, .int .u64 c.rope, .int .u64 c.bank, .int .u64 c.bonus, .int .u64 c.most, .int .i64 c.str, .int .u64 c.gr, .string c.s0, .string c.s1, .int .i64 c.mi, .int .i64 c.ke] 32)).cell? ⟨w.heap.size, 10, none⟩ = some (.int .i64 c.str) ∧ (w.alloc (.cells #[.int .i64 c.l, .int .i64 c.m, .int .i64 c.a, .int .i64 c.o, .int .i64 c.t, .int .i64 c.c, .int .u64 c.rope, .int .u64 c.bank, .int .u64 c.bonus, .int .u64 c.most, .int .i64 c.str, .int .u64 c.gr, .string c.s0, .string c.s1, .int .i64 c.mi, .int .i64 c.ke] 32)).cell? ⟨w.heap.size, 11, none⟩ = some (.int .u64 c.gr) ∧ (w.alloc (.cells #[.int .i64 c.l, .int .i64 c.m, .int .i64 c.a, .int .i64 c.o, .int .i64 c.t, .int .i64 c.c, .int .u64 c.rope, .int .u64 c.bank, .int .u64 c.bonus, .int .u64 c.most, .int .i64 c.str, .int .u64 c.gr, .string c.s0, .string c.s1, .int .i64 c.mi, .int .i64 c.ke] 32)).cell? ⟨w.heap.size, 12, none⟩ = some (.string c.s0) ∧ (w.alloc (.cells #[.int .i64 c.l, .int .i64 c.m, .int .i64 c.a, .int .i64 c.o, .int .i64 c.t, .int .i64 c.c, .int .u64 c.rope, .int .u64 c.bank, .int .u64 c.bonus, .int .u64 c.most, .int .i64 c.str, .int .u64 c.gr, .string c.s0, .string c.s1, .int .i64 c.mi, .int .i64 c.ke] 32)).cell? ⟨w.heap.size, 13, none⟩ = some (.string c.s1) ∧ (w.alloc (.cells #[.int .i64 c.l, .int .i64 c.m, .int .i64 c.a, .int .i64 c.o, .int .i64 c.t, .int .i64 c.c, .int .u64 c.rope, .int .u64 c.bank, .int .u64 c.bonus, .int .u64 c.most, .int .i64 c.str, .int .u64 c.gr, .string c.s0, .string c.s1, .int .i64 c.mi, .int .i64 c.ke] 32)).cell? ⟨w.heap.size, 14, none⟩ = some (.int .i64 c.mi) ∧ (w.alloc (.cells #[.int .i64 c.l, .int .i64 c.m, .int .i64 c.a, .int .i64 c.o, .int .i64 c.t, .int .i64 c.c, .int .u64 c.rope, .int .u64 c.bank, .int .u64 c.bonus, .int .u64 c.most, .int .i64 c.str, .int .u64 c.gr, .string c.s0, .string c.s1, .int .i64 c.mi, .int .i64 c.ke] 32)).cell? ⟨w.heap.size, 15, none⟩ = some (.int .i64 c.ke) ∧ w.heap.size + 1 ≤ (w.alloc (.cells #[.int .i64 c.l, .int .i64 c.m, .int .i64 c.a, .int .i64 c.o, .int .i64 c.t, .int .i64 c.c, .int .u64 c.rope, .int .u64 c.bank, .int .u64 c.bonus, .int .u64 c.most, .int .i64 c.str, .int .u64 c.gr, .string c.s0, .string c.s1, .int .i64 c.mi, .int .i64 c.ke] 32)).heap.size ∧ Below w.heap.size w (w.alloc (.cells #[.int .i64 c.l, .int .i64 c.m, .int .i64 c.a, .int .i64 c.o, .int .i64 c.t, .int .i64 c.c, .int .u64 c.rope, .int .u64 c.bank, .int .u64 c.bonus, .int .u64 c.most, .int .i64 c.str, .int .u64 c.gr, .string c.s0, .string c.s1, .int .i64 c.mi, .int .i64 c.ke] 32))) := by
    refine ⟨?_, ?_, ?_, ?_, ?_, ?_, ?_, ?_, ?_, ?_, ?_, ?_, ?_, ?_, ?_, ?_, ?_, ?_⟩ <;> first | (simp; done) | (focus (repeat' (first | (with_reducible exact Below.refl _ _) | (with_reducible assumption) | (with_reducible refine Below.alloc ?_ ?_ _) | (with_reducible refine below_drewN ?_ _) | (with_reducible refine Below.drew ?_) | (with_reducible refine Below.setCell ?_ ?_ _) | omega | (simp; done) | (simp; omega))))
  clear hs ho
  go_enter Try.func3, Try.ntmps3
  go_wp2_with (first
    | (go_at_call 6; refine (small_of c _ HS.out _).mono ?_; rintro e w1 ⟨rfl, hb1⟩; have hk1 := keep_at hb1 w.heap.size (by simp); have hB1 : Below w.heap.size w w1 := below_call (by (focus (repeat' (first | (with_reducible exact Below.refl _ _) | (with_reducible assumption) | (with_reducible refine Below.alloc ?_ ?_ _) | (with_reducible refine below_drewN ?_ _) | (with_reducible refine Below.drew ?_) | (with_reducible refine Below.setCell ?_ ?_ _) | omega | (simp; done) | (simp; omega))))) hb1 (by (focus (first | omega | (simp only [World.size_alloc]; done) | (simp only [World.size_alloc]; omega) | (simp; done) | (simp; omega)))); have hZ1 : w.heap.size < w1.heap.size := (by have := hb1.size; simp at this; omega); have HE1 := Lib.hid (HK.out _ _ HE0.out hb1); clear hb1)
    | (go_at_call 8; refine (allowed_of c _ HNO.out _).mono ?_; rintro e w3 ⟨rfl, hb3⟩; have hk3 := keep_at hb3 w.heap.size hZ1; have hB3 : Below w.heap.size w w3 := below_call hB1 hb3 hB1.size; have hZ3 : w.heap.size < w3.heap.size := (by have := hb3.size; omega); have HE3 := Lib.hid (HK.out _ _ HE1.out hb3); clear hb3)
    | fail)
  as_aux_lemma =>
    go_region_held3 (fun W => W.cell? ⟨w.heap.size, 0, none⟩ = some (.int .i64 c.l) ∧ W.cell? ⟨w.heap.size, 1, none⟩ = some (.int .i64 c.m) ∧ W.cell? ⟨w.heap.size, 2, none⟩ = some (.int .i64 c.a) ∧ W.cell? ⟨w.heap.size, 3, none⟩ = some (.int .i64 c.o) ∧ W.cell? ⟨w.heap.size, 4, none⟩ = some (.int .i64 c.t) ∧ W.cell? ⟨w.heap.size, 5, none⟩ = some (.int .i64 c.c) ∧ W.cell? ⟨w.heap.size, 6, none⟩ = some (.int .u64 c.rope) ∧ W.cell? ⟨w.heap.size, 7, none⟩ = some (.int .u64 c.bank) ∧ W.cell? ⟨w.heap.size, 8, none⟩ = some (.int .u64 c.bonus) ∧ W.cell? ⟨w.heap.size, 9, none⟩ = some (.int .u64 c.most) ∧ W.cell? ⟨w.heap.size, 10, none⟩ = some (.int .i64 c.str) ∧ W.cell? ⟨w.heap.size, 11, none⟩ = some (.int .u64 c.gr) ∧ W.cell? ⟨w.heap.size, 12, none⟩ = some (.string c.s0) ∧ W.cell? ⟨w.heap.size, 13, none⟩ = some (.string c.s1) ∧ W.cell? ⟨w.heap.size, 14, none⟩ = some (.int .i64 c.mi) ∧ W.cell? ⟨w.heap.size, 15, none⟩ = some (.int .i64 c.ke) ∧ w.heap.size + 1 ≤ W.heap.size ∧ Below w.heap.size w W)
      (first
        | (obtain ⟨g0, g1, g2, g3, g4, g5, g6, g7, g8, g9, g10, g11, g12, g13, g14, g15, gz, gB⟩ := HE3.out; exact ⟨g0, g1, g2, g3, g4, g5, g6, g7, g8, g9, g10, g11, g12, g13, g14, g15, gz, gB.drew⟩)
        | assumption
        | exact HK.out _ _ (by assumption) hb
        | (refine ⟨?_, ?_, ?_, ?_, ?_, ?_, ?_, ?_, ?_, ?_, ?_, ?_, ?_, ?_, ?_, ?_, ?_, ?_⟩ <;> first | (simp; done) | (focus (repeat' (first | (with_reducible exact Below.refl _ _) | (with_reducible assumption) | (with_reducible refine Below.alloc ?_ ?_ _) | (with_reducible refine below_drewN ?_ _) | (with_reducible refine Below.drew ?_) | (with_reducible refine Below.setCell ?_ ?_ _) | omega | (simp; done) | (simp; omega)))))
        | (obtain ⟨g0, g1, g2, g3, g4, g5, g6, g7, g8, g9, g10, g11, g12, g13, g14, g15, g16, g17⟩ := HK.out _ _ (by assumption) hb; assumption)
        | (simp; done)
        | (focus (repeat' (first | (with_reducible exact Below.refl _ _) | (with_reducible assumption) | (with_reducible refine Below.alloc ?_ ?_ _) | (with_reducible refine below_drewN ?_ _) | (with_reducible refine Below.drew ?_) | (with_reducible refine Below.setCell ?_ ?_ _) | omega | (simp; done) | (simp; omega)))))
      (first
        | (go_at_call 10; refine (rticks_any c _ hp HNO.out).mono ?_; rintro e w' ⟨rfl, hb⟩)
        | (go_at_call 11; refine (rmoves_any c _ HNO.out).mono ?_; rintro e w' ⟨rfl, hb⟩)
        | (go_at_call 12; refine (rbytes_any c _ HNO.out).mono ?_; rintro e w' ⟨rfl, hb⟩)
        | (go_at_call 9; refine (numbers_ok c _ hp HNO.out).mono ?_; rintro e w' ⟨rfl, hb⟩)
        | (go_at_call 7; refine (known_any _).mono ?_; rintro e w' ⟨rfl, hb⟩))
    all_goals go_wp2
    all_goals go_returns
    all_goals exact ⟨rfl, by go_split_ands; assumption⟩
  
theorem walk (c : Cfg) (w : World) (hp : 0 ≤ c.bank ∧ 0 ≤ c.bonus) :
    Calls Try.prog 3 #[.agg #[.int .i64 c.l, .int .i64 c.m, .int .i64 c.a, .int .i64 c.o, .int .i64 c.t, .int .i64 c.c, .int .u64 c.rope, .int .u64 c.bank, .int .u64 c.bonus, .int .u64 c.most, .int .i64 c.str, .int .u64 c.gr, .string c.s0, .string c.s1, .int .i64 c.mi, .int .i64 c.ke]] w fun e w' => e = .returned (.bool true) ∧ Below w.heap.size w w' := by
  cases hs : smallB c with
  | false => exact walk_big c w hs
  | true =>
    cases ho : okB c with
    | false => exact walk_no c w hp hs ho
    | true => exact walk_ok c w hp hs ho

theorem own : ownKnob Try.prog.godebug = none := by kernel_rfl
theorem laidOut : laidOutB Try.prog = true := by kernel_rfl

set_option maxRecDepth 100000 in
theorem lifted (os : Os) (started : os.Started) (H : Type) (enc : TypeId × Value → H) :
    ReturnsInHanded {} Try.checked os 3 .any (Rows.boundNumbersSpec.pre6 enc Try.prog Try.f3 Rows.boundNumbersRow.domain false) (Rows.boundNumbersSpec.post enc Try.prog Try.f3 false true false false) := by
  refine returnsInHanded_of_change (C := Try.checked) own started (by kernel_rfl) Try.func3
    (ChangeSpec.witness6 (enc := enc) (C := Try.checked) false ⟨#[], #[.agg #[.int .i64 0, .int .i64 0, .int .i64 0, .int .i64 0, .int .i64 0, .int .i64 0, .int .u64 0, .int .u64 0, .int .u64 0, .int .u64 0, .int .i64 0, .int .u64 0, .string ⟨#[]⟩, .string ⟨#[]⟩, .int .i64 0, .int .i64 0]], []⟩ 8 (by kernel_rfl) (by kernel_rfl) (by kernel_rfl) (by kernel_rfl)) ?_
  intro W base args ds gs before hval0 hW hcnd _
  have hval : ∀ (j : Nat) t v, Try.f3.params[j]? = some t → args[j]? = some v → Value.okWide Try.prog W .any base t v := hval0
  have hW' := hW
  obtain ⟨p, q, hA0, hV, rfl, hfz, hnd⟩ := hW
  have hA : DataW.TrodAll enc Try.prog W 0 (fun _ => true) true Try.f3.params.toList args.toList ds p := hA0
  rw [Try.params3] at hA hval
  obtain ⟨v0, vs0, d0, ds0, p0, q0, hargs, rfl, rfl, h0, r0⟩ := trodAll_cons hA
  obtain ⟨rfl, rfl, rfl⟩ := trodAll_nil r0
  obtain rfl : args = #[v0] := by cases args; simp_all
  obtain ⟨rfl, rfl⟩ := trodVars_none hV
  have k0 := h0
  have lt0 : ∀ x ∈ p0, x.block < W.heap.size := by obtain ⟨m, hm⟩ := k0; exact DataW.trod_lt m _ _ _ hm
  obtain ⟨c1, rfl, hp1⟩ := open_cfg (hval 0 32 v0 rfl rfl) h0
  clear hA0 hval0
  refine (walk c1 W hp1).mono fun e W' ⟨he, bel⟩ => ?_
  subst he
  exact ⟨_, rfl, _, _, _, [], _, [], hW', trodAll_mk1 (shut_bool Try.underlying4 _), (trodAll_cons_mk (Below.trod laidOut (by kernel_rfl) (of_decide_eq_true (by kernel_rfl)) k0 bel lt0) trodAll_mk0), rfl, bel.frame _, fun h => by cases h⟩

theorem over : Rows.boundNumbersRow.holds Try.pinned (OpenSpec.ofChange Rows.boundNumbersSpec) :=
  OpenClaim.holds_of_wide 3 Try.f3 rfl rfl rfl rfl rfl rfl rfl ⟨rfl, rfl, rfl, rfl, rfl⟩ rfl rfl rfl rfl rfl (by kernel_rfl) Try.func3 (by kernel_rfl)
    (of_decide_eq_true (by kernel_rfl)) (by unfold Func.isWrapper; first | (rw [if_pos (by decide +kernel)]; kernel_rfl) | (rw [if_neg (by decide +kernel)]; exact ⟨rfl, rfl⟩))
    (fun os started H enc _ => lifted os started H enc)

/-- The statement. -/
theorem proved : Rows.BoundNumbersSaid := over

end Go.Proofs.Ytleckpoppmecdaa.boundNumbers
