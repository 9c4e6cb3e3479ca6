/-
  'numbers' and 'given', in the statements' package.
-/
import Derived.Test.YtleckpoppmecdaaBounds
set_option linter.unusedSimpArgs false
set_option linter.unusedVariables false
namespace Go.Proofs.Ytleckpoppmecdaa
open Go.RowKit

set_option maxHeartbeats 800000 in
theorem numbers_no (c : Cfg) (w : World) (hp : 0 ≤ c.bank ∧ 0 ≤ c.bonus) (h : okB c = false) :
    Calls Try.prog 9 #[.agg #[.int .i64 c.l, .int .i64 c.m, .int .i64 c.a, .int .i64 c.o, .int .i64 c.t, .int .i64 c.c, .int .u64 c.rope, .int .u64 c.bank, .int .u64 c.bonus, .int .u64 c.most, .int .i64 c.str, .int .u64 c.gr, .string c.s0, .string c.s1, .int .i64 c.mi, .int .i64 c.ke], .int .u64 0, .int .i64 0, .int .i64 0, .int .i64 2] w fun e w' => e = .returned (.bool true) ∧ Below w.heap.size w w' := by
  go_enter Try.func9, Try.ntmps9
  go_wp2_with (first
    | (go_at_call 21; refine (bticks_any c _ hp).mono ?_; rintro e w1 ⟨rfl, hb1⟩; have hk1 := keep_at hb1 w.heap.size (by simp); have hB1 : Below w.heap.size w w1 := below_call (by (focus (repeat' (first | (with_reducible exact Below.refl _ _) | (with_reducible assumption) | (with_reducible refine Below.alloc ?_ ?_ _) | (with_reducible refine below_drewN ?_ _) | (with_reducible refine Below.drew ?_) | (with_reducible refine Below.setCell ?_ ?_ _) | omega | (simp; done) | (simp; omega))))) hb1 (by (focus (first | omega | (simp only [World.size_alloc]; done) | (simp only [World.size_alloc]; omega) | (simp; done) | (simp; omega)))); have hZ1 : w.heap.size < w1.heap.size := (by have := hb1.size; simp at this; omega); clear hb1)
    | (go_at_call 22; refine (bmoves_any c _).mono ?_; rintro e w2 ⟨rfl, hb2⟩; have hk2 := keep_at hb2 w.heap.size hZ1; have hB2 : Below w.heap.size w w2 := below_call hB1 hb2 hB1.size; have hZ2 : w.heap.size < w2.heap.size := (by have := hb2.size; omega); clear hb2)
    | (go_at_call 23; refine (bbytes_any c _).mono ?_; rintro e w3 ⟨rfl, hb3⟩; have hk3 := keep_at hb3 w.heap.size hZ2; have hB3 : Below w.heap.size w w3 := below_call hB2 hb3 hB2.size; have hZ3 : w.heap.size < w3.heap.size := (by have := hb3.size; omega); clear hb3)
    | fail)
  all_goals go_returns
  exact ⟨rfl, hB3⟩

set_option maxHeartbeats 800000 in
theorem numbers_ok (c : Cfg) (w : World) (hp : 0 ≤ c.bank ∧ 0 ≤ c.bonus) (h : okB c = true) :
    Calls Try.prog 9 #[.agg #[.int .i64 c.l, .int .i64 c.m, .int .i64 c.a, .int .i64 c.o, .int .i64 c.t, .int .i64 c.c, .int .u64 c.rope, .int .u64 c.bank, .int .u64 c.bonus, .int .u64 c.most, .int .i64 c.str, .int .u64 c.gr, .string c.s0, .string c.s1, .int .i64 c.mi, .int .i64 c.ke], .int .u64 (tickI c), .int .i64 (movI c), .int .i64 (bytI c), .int .i64 0] w fun e w' => e = .returned (.bool true) ∧ Below w.heap.size w w' := by
  go_enter Try.func9, Try.ntmps9
  go_wp2_with (first
    | (go_at_call 21; refine (bticks_any c _ hp).mono ?_; rintro e w1 ⟨rfl, hb1⟩; have hk1 := keep_at hb1 w.heap.size (by simp); have hB1 : Below w.heap.size w w1 := below_call (by (focus (repeat' (first | (with_reducible exact Below.refl _ _) | (with_reducible assumption) | (with_reducible refine Below.alloc ?_ ?_ _) | (with_reducible refine below_drewN ?_ _) | (with_reducible refine Below.drew ?_) | (with_reducible refine Below.setCell ?_ ?_ _) | omega | (simp; done) | (simp; omega))))) hb1 (by (focus (first | omega | (simp only [World.size_alloc]; done) | (simp only [World.size_alloc]; omega) | (simp; done) | (simp; omega)))); have hZ1 : w.heap.size < w1.heap.size := (by have := hb1.size; simp at this; omega); clear hb1)
    | (go_at_call 22; refine (bmoves_any c _).mono ?_; rintro e w2 ⟨rfl, hb2⟩; have hk2 := keep_at hb2 w.heap.size hZ1; have hB2 : Below w.heap.size w w2 := below_call hB1 hb2 hB1.size; have hZ2 : w.heap.size < w2.heap.size := (by have := hb2.size; omega); clear hb2)
    | (go_at_call 23; refine (bbytes_any c _).mono ?_; rintro e w3 ⟨rfl, hb3⟩; have hk3 := keep_at hb3 w.heap.size hZ2; have hB3 : Below w.heap.size w w3 := below_call hB2 hb3 hB2.size; have hZ3 : w.heap.size < w3.heap.size := (by have := hb3.size; omega); clear hb3)
    | fail)
  all_goals go_returns
  exact ⟨rfl, hB3⟩

def givenC : Cfg := ⟨20, 0, 10, 100, 10, 3, 10, 5, 2, 9, 2, 50, ⟨#[122, 101, 114, 111]⟩, ⟨#[111, 110, 101, 49]⟩, 100, 5⟩
theorem given_ok : okB givenC = true := by decide +kernel
theorem given_nums : prI givenC = 2360 ∧ movI givenC = 2362 ∧ bytI givenC = 471588 ∧ tickI givenC = 23618 := by decide +kernel

set_option maxHeartbeats 800000 in
theorem given_any (w : World) :
    Calls Try.prog 15 #[] w fun e w' => e = .returned (.agg #[.int .i64 20, .int .i64 0, .int .i64 10, .int .i64 100, .int .i64 10, .int .i64 3, .int .u64 10, .int .u64 5, .int .u64 2, .int .u64 9, .int .i64 2, .int .u64 50, .string ⟨#[122, 101, 114, 111]⟩, .string ⟨#[111, 110, 101, 49]⟩, .int .i64 100, .int .i64 5]) ∧ Below w.heap.size w w' := by
  go_enter Try.func15, Try.ntmps15
  go_wp2
  all_goals go_returns
  refine ⟨?_, by go_grown⟩
  rfl

end Go.Proofs.Ytleckpoppmecdaa
