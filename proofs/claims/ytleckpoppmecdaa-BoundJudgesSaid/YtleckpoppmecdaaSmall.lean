/-
  The configuration, and the contracts of the functions that say whether it is allowed.
-/
import Derived.Test.YtleckpoppmecdaaRows
import Derived.WalkKit
import Derived.WalkSpells
import Derived.WalkLawsBesides
import Derived.Handy
namespace Go.Proofs.Ytleckpoppmecdaa
open Go.RowKit

structure Cfg where
  (l m a o t c : Int)
  (rope bank bonus most : Int)
  (str gr : Int)
  (s0 s1 : ByteArray)
  (mi ke : Int)

def inB (n x y : Int) : Bool := decide (x ≤ n) && decide (n ≤ y)
def gameB (c : Cfg) : Bool := inB c.l 1 9999 && inB c.m 0 7 && inB c.a 1 100 && inB c.o 40 500 && inB c.t 0 100 && inB c.c 1 200
def clockB (c : Cfg) : Bool := decide (1 ≤ c.rope) && decide (c.rope ≤ 4294967296) && decide (c.most ≤ 4294967296) && decide (c.bonus ≤ 4294967296) && decide (c.bank ≤ c.most)
def strikeB (c : Cfg) : Bool := decide (1 ≤ c.str) && decide (c.str ≤ 100) && decide (c.gr ≤ 4294967296)
def tokB (s : ByteArray) : Bool := inB s.size 4 32
def nameB (c : Cfg) : Bool := tokB c.s0 && tokB c.s1 && !(c.s0.toList == c.s1.toList)
def okB (c : Cfg) : Bool := gameB c && clockB c && strikeB c && nameB c && inB c.mi 1 1000 && inB c.ke 1 1000
def smallB (c : Cfg) : Bool := decide ((c.s0.size : Int) ≤ 100) && decide ((c.s1.size : Int) ≤ 100)

set_option maxHeartbeats 400000 in
theorem within_any (n x y : Int) (w : World) :
    Calls Try.prog 27 #[.int .i64 n, .int .i64 x, .int .i64 y] w fun e w' => e = .returned (.bool (inB n x y)) ∧ w = w' := by
  go_enter Try.func27, Try.ntmps27
  go_wp2
  all_goals go_ret
  all_goals exact ⟨by simp_all [inB]; try omega, rfl⟩

set_option maxHeartbeats 400000 in
theorem pwithin_any (n x y : Int) (w : World) :
    Calls Try.prog 29 #[.int .i64 n, .int .i64 x, .int .i64 y] w fun e w' => e = .returned (.bool (inB n x y)) ∧ w = w' := by
  go_enter Try.func29, Try.ntmps29
  go_wp2
  all_goals go_ret
  all_goals exact ⟨by simp_all [inB]; try omega, rfl⟩

set_option maxHeartbeats 400000 in
theorem game_any (c : Cfg) (w : World) :
    Calls Try.prog 17 #[.agg #[.int .i64 c.l, .int .i64 c.m, .int .i64 c.a, .int .i64 c.o, .int .i64 c.t, .int .i64 c.c]] w fun e w' => e = .returned (.bool (gameB c)) ∧ Below w.heap.size w w' := by
  go_enter Try.func17, Try.ntmps17
  go_wp2_with (go_at_call 27; refine (within_any _ _ _ _).mono ?_; rintro e w' ⟨rfl, rfl⟩)
  all_goals go_returns
  all_goals refine ⟨?_, by go_grown⟩
  all_goals simp_all [gameB]

set_option maxHeartbeats 400000 in
theorem pgame_any (c : Cfg) (w : World) :
    Calls Try.prog 26 #[.agg #[.int .i64 c.l, .int .i64 c.m, .int .i64 c.a, .int .i64 c.o, .int .i64 c.t, .int .i64 c.c]] w fun e w' => e = .returned (.bool (gameB c)) ∧ Below w.heap.size w w' := by
  go_enter Try.func26, Try.ntmps26
  go_wp2_with (go_at_call 29; refine (pwithin_any _ _ _ _).mono ?_; rintro e w' ⟨rfl, rfl⟩)
  all_goals go_returns
  all_goals refine ⟨?_, by go_grown⟩
  all_goals simp_all [gameB]

set_option maxHeartbeats 400000 in
theorem clock_any (c : Cfg) (w : World) :
    Calls Try.prog 18 #[.agg #[.int .u64 c.rope, .int .u64 c.bank, .int .u64 c.bonus, .int .u64 c.most]] w fun e w' => e = .returned (.bool (clockB c)) ∧ Below w.heap.size w w' := by
  go_enter Try.func18, Try.ntmps18
  go_wp2
  all_goals go_returns
  all_goals refine ⟨?_, by go_grown⟩
  all_goals simp_all [clockB]
  all_goals try omega

set_option maxHeartbeats 400000 in
theorem pclock_any (c : Cfg) (w : World) :
    Calls Try.prog 31 #[.agg #[.int .u64 c.rope, .int .u64 c.bank, .int .u64 c.bonus, .int .u64 c.most]] w fun e w' => e = .returned (.bool (clockB c)) ∧ Below w.heap.size w w' := by
  go_enter Try.func31, Try.ntmps31
  go_wp2
  all_goals go_returns
  all_goals refine ⟨?_, by go_grown⟩
  all_goals simp_all [clockB]
  all_goals try omega

set_option maxHeartbeats 400000 in
theorem strike_any (c : Cfg) (w : World) :
    Calls Try.prog 19 #[.agg #[.int .i64 c.str, .int .u64 c.gr]] w fun e w' => e = .returned (.bool (strikeB c)) ∧ Below w.heap.size w w' := by
  go_enter Try.func19, Try.ntmps19
  go_wp2
  all_goals go_returns
  all_goals refine ⟨?_, by go_grown⟩
  all_goals simp_all [strikeB]
  all_goals try omega

set_option maxHeartbeats 400000 in
theorem pstrike_any (c : Cfg) (w : World) :
    Calls Try.prog 32 #[.agg #[.int .i64 c.str, .int .u64 c.gr]] w fun e w' => e = .returned (.bool (strikeB c)) ∧ Below w.heap.size w w' := by
  go_enter Try.func32, Try.ntmps32
  go_wp2
  all_goals go_returns
  all_goals refine ⟨?_, by go_grown⟩
  all_goals simp_all [strikeB]
  all_goals try omega

set_option maxHeartbeats 400000 in
theorem small_any (c : Cfg) (w : World) :
    Calls Try.prog 6 #[.agg #[.int .i64 c.l, .int .i64 c.m, .int .i64 c.a, .int .i64 c.o, .int .i64 c.t, .int .i64 c.c, .int .u64 c.rope, .int .u64 c.bank, .int .u64 c.bonus, .int .u64 c.most, .int .i64 c.str, .int .u64 c.gr, .string c.s0, .string c.s1, .int .i64 c.mi, .int .i64 c.ke]] w fun e w' => e = .returned (.bool (smallB c)) ∧ Below w.heap.size w w' := by
  go_enter Try.func6, Try.ntmps6
  go_wp2
  all_goals go_returns
  all_goals refine ⟨?_, by go_grown⟩
  all_goals simp_all [smallB]
  all_goals try omega

set_option maxHeartbeats 400000 in
theorem name_any (c : Cfg) (w : World) :
    Calls Try.prog 20 #[.agg #[.string c.s0, .string c.s1]] w fun e w' => e = .returned (.bool (nameB c)) ∧ Below w.heap.size w w' := by
  go_enter Try.func20, Try.ntmps20
  go_wp2
  go_loop [3] (fun i => i = .int .i64 0 ∨ (i = .int .i64 1 ∧ tokB c.s0 = true) ∨ (i = .int .i64 2 ∧ tokB c.s0 = true ∧ tokB c.s1 = true)) (fun i => 2 - (intOf i).toNat)
  case atStart => exact .inl rfl
  case round =>
    rcases hrel with rfl | ⟨rfl, h0⟩ | ⟨rfl, h0, h1⟩
    · go_wp2
      all_goals first
        | (refine ⟨.inr (.inl ⟨by go_num, ?_⟩), by simp [intOf]⟩; simp_all [tokB, inB]; done)
        | (go_returns; refine ⟨?_, by go_grown⟩; simp_all [nameB, tokB, inB]; done)
        | (go_returns; refine ⟨?_, by go_grown⟩; simp_all [nameB, tokB, inB]; omega)
    · go_wp2
      all_goals first
        | (refine ⟨.inr (.inr ⟨by go_num, h0, ?_⟩), by simp [intOf]⟩; simp_all [tokB, inB]; done)
        | (go_returns; refine ⟨?_, by go_grown⟩; simp_all [nameB, tokB, inB]; done)
        | (go_returns; refine ⟨?_, by go_grown⟩; simp_all [nameB, tokB, inB]; omega)
    · go_wp2
      all_goals go_returns
      all_goals refine ⟨?_, by go_grown⟩
      all_goals simp_all [nameB]

theorem at_zero (a b : Value) (w : World) : (Instr.index 30 (.agg #[a, b]) (.int .i64 0)).run Try.prog w = .ok a w := by
  simp [Instr.index, run_underlying Try.underlying30, asIntOf, go_sem]
theorem at_one (a b : Value) (w : World) : (Instr.index 30 (.agg #[a, b]) (.int .i64 1)).run Try.prog w = .ok b w := by
  simp [Instr.index, run_underlying Try.underlying30, asIntOf, go_sem]

set_option maxHeartbeats 400000 in
theorem new_any (c : Cfg) (w : World) :
    Calls Try.prog 33 #[.agg #[.string c.s0, .string c.s1]] w fun e w' => (∃ p, e = .returned (.tuple #[p, .int .i64 (if nameB c = true then 0 else 2)])) ∧ Below w.heap.size w w' := by
  go_enter Try.func33, Try.ntmps33
  go_wp2
  go_loop [5, 7] (fun _ i => i = .int .i64 0 ∨ (i = .int .i64 1 ∧ tokB c.s0 = true) ∨ (i = .int .i64 2 ∧ tokB c.s0 = true ∧ tokB c.s1 = true)) (fun _ i => 2 - (intOf i).toNat)
  case atStart => exact .inl rfl
  case round =>
    rcases hrel with rfl | ⟨rfl, h0⟩ | ⟨rfl, h0, h1⟩
    · go_wp2
      rw [at_zero]
      go_wp2
      all_goals first
        | (refine ⟨.inr (.inl ⟨by go_num, ?_⟩), by simp [intOf]⟩; simp_all [tokB, inB]; done)
        | (go_returns; refine ⟨?_, by go_grown⟩; simp_all [nameB, tokB, inB]; done)
        | (go_returns; refine ⟨?_, by go_grown⟩; simp_all [nameB, tokB, inB]; omega)
    · go_wp2
      rw [at_one]
      go_wp2
      all_goals first
        | (refine ⟨.inr (.inr ⟨by go_num, h0, ?_⟩), by simp [intOf]⟩; simp_all [tokB, inB]; done)
        | (go_returns; refine ⟨?_, by go_grown⟩; simp_all [nameB, tokB, inB]; done)
        | (go_returns; refine ⟨?_, by go_grown⟩; simp_all [nameB, tokB, inB]; omega)
    · cases hn : (c.s0.toList == c.s1.toList)
      · have hN : nameB c = true := by simp_all [nameB]
        clear h0 h1
        go_wp2
        rw [run_makeMap]
        go_wp2
        all_goals go_returns
        all_goals refine ⟨?_, by go_grown⟩
        all_goals simp
      · have hN : nameB c = false := by simp_all [nameB]
        clear h0 h1
        go_wp2
        all_goals go_returns
        all_goals refine ⟨?_, by go_grown⟩
        all_goals simp

end Go.Proofs.Ytleckpoppmecdaa
