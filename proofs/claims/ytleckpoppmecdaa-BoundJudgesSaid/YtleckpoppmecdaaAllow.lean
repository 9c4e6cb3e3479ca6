/-
  The contracts of what says whether a configuration is allowed, and of its numbers.
-/
import Derived.Test.YtleckpoppmecdaaSmall
import Derived.Test.YtleckpoppmecdaaLaw
set_option linter.unusedSimpArgs false
set_option linter.unusedVariables false
namespace Go.Proofs.Ytleckpoppmecdaa
open Go.RowKit

set_option maxHeartbeats 800000 in
theorem allowed_any (c : Cfg) (w : World) :
    Calls Try.prog 8 #[.agg #[.int .i64 c.l, .int .i64 c.m, .int .i64 c.a, .int .i64 c.o, .int .i64 c.t, .int .i64 c.c, .int .u64 c.rope, .int .u64 c.bank, .int .u64 c.bonus, .int .u64 c.most, .int .i64 c.str, .int .u64 c.gr, .string c.s0, .string c.s1, .int .i64 c.mi, .int .i64 c.ke]] w fun e w' => e = .returned (.bool (okB c)) ∧ Below w.heap.size w w' := by
  go_enter Try.func8, Try.ntmps8
  go_wp2_with (first
    | (go_at_call 17; refine (game_any c _).mono ?_; rintro e w1 ⟨rfl, hb1⟩; have hk1 := keep_at hb1 w.heap.size (by simp); have hB1 : Below w.heap.size w w1 := below_call (by (focus (repeat' (first | (with_reducible exact Below.refl _ _) | (with_reducible assumption) | (with_reducible refine Below.alloc ?_ ?_ _) | (with_reducible refine below_drewN ?_ _) | (with_reducible refine Below.drew ?_) | (with_reducible refine Below.setCell ?_ ?_ _) | omega | (simp; done) | (simp; omega))))) hb1 (by (focus (first | omega | (simp only [World.size_alloc]; done) | (simp only [World.size_alloc]; omega) | (simp; done) | (simp; omega)))); have hZ1 : w.heap.size < w1.heap.size := (by have := hb1.size; simp at this; omega); clear hb1)
    | (go_at_call 18; refine (clock_any c _).mono ?_; rintro e w2 ⟨rfl, hb2⟩; have hk2 := keep_at hb2 w.heap.size hZ1; have hB2 : Below w.heap.size w w2 := below_call hB1 hb2 hB1.size; have hZ2 : w.heap.size < w2.heap.size := (by have := hb2.size; omega); clear hb2)
    | (go_at_call 19; refine (strike_any c _).mono ?_; rintro e w3 ⟨rfl, hb3⟩; have hk3 := keep_at hb3 w.heap.size hZ2; have hB3 : Below w.heap.size w w3 := below_call hB2 hb3 hB2.size; have hZ3 : w.heap.size < w3.heap.size := (by have := hb3.size; omega); clear hb3)
    | (go_at_call 20; refine (name_any c _).mono ?_; rintro e w4 ⟨rfl, hb4⟩; have hk4 := keep_at hb4 w.heap.size hZ3; have hB4 : Below w.heap.size w w4 := below_call hB3 hb4 hB3.size; have hZ4 : w.heap.size < w4.heap.size := (by have := hb4.size; omega); clear hb4)
    | fail)
  all_goals go_returns
  all_goals refine ⟨?_, by first | assumption | go_grown⟩
  all_goals simp_all [okB, inB]
  all_goals try omega

set_option maxHeartbeats 800000 in
theorem check_any (c : Cfg) (w : World) :
    Calls Try.prog 30 #[.agg #[.int .i64 c.l, .int .i64 c.m, .int .i64 c.a, .int .i64 c.o, .int .i64 c.t, .int .i64 c.c, .int .u64 c.rope, .int .u64 c.bank, .int .u64 c.bonus, .int .u64 c.most, .int .i64 c.str, .int .u64 c.gr, .string c.s0, .string c.s1, .int .i64 c.mi, .int .i64 c.ke]] w fun e w' => e = .returned (.int .i64 (if okB c = true then 0 else 2)) ∧ Below w.heap.size w w' := by
  go_enter Try.func30, Try.ntmps30
  go_wp2_with (first
    | (go_at_call 26; refine (pgame_any c _).mono ?_; rintro e w1 ⟨rfl, hb1⟩; have hk1 := keep_at hb1 w.heap.size (by simp); have hB1 : Below w.heap.size w w1 := below_call (by (focus (repeat' (first | (with_reducible exact Below.refl _ _) | (with_reducible assumption) | (with_reducible refine Below.alloc ?_ ?_ _) | (with_reducible refine below_drewN ?_ _) | (with_reducible refine Below.drew ?_) | (with_reducible refine Below.setCell ?_ ?_ _) | omega | (simp; done) | (simp; omega))))) hb1 (by (focus (first | omega | (simp only [World.size_alloc]; done) | (simp only [World.size_alloc]; omega) | (simp; done) | (simp; omega)))); have hZ1 : w.heap.size < w1.heap.size := (by have := hb1.size; simp at this; omega); clear hb1)
    | (go_at_call 31; refine (pclock_any c _).mono ?_; rintro e w2 ⟨rfl, hb2⟩; have hk2 := keep_at hb2 w.heap.size hZ1; have hB2 : Below w.heap.size w w2 := below_call hB1 hb2 hB1.size; have hZ2 : w.heap.size < w2.heap.size := (by have := hb2.size; omega); clear hb2)
    | (go_at_call 32; refine (pstrike_any c _).mono ?_; rintro e w3 ⟨rfl, hb3⟩; have hk3 := keep_at hb3 w.heap.size hZ2; have hB3 : Below w.heap.size w w3 := below_call hB2 hb3 hB2.size; have hZ3 : w.heap.size < w3.heap.size := (by have := hb3.size; omega); clear hb3)
    | (go_at_call 33; refine (new_any c _).mono ?_; rintro e w4 ⟨⟨p, rfl⟩, hb4⟩; have hk4 := keep_at hb4 w.heap.size hZ3; have hB4 : Below w.heap.size w w4 := below_call hB3 hb4 hB3.size; have hZ4 : w.heap.size < w4.heap.size := (by have := hb4.size; omega); clear hb4)
    | fail)
  all_goals go_returns
  all_goals refine ⟨?_, by first | assumption | go_grown⟩
  all_goals simp_all [okB, inB]
  all_goals try omega

end Go.Proofs.Ytleckpoppmecdaa
