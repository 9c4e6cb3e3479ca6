/-
  The numbers of a configuration, in bound, in result and in the references.
-/
import Derived.Test.YtleckpoppmecdaaAllow
set_option linter.unusedSimpArgs false
set_option linter.unusedVariables false
namespace Go.Proofs.Ytleckpoppmecdaa
open Go.RowKit

def turnI (c : Cfg) : Int := 24 * c.a + 4 * c.t + 5 * c.o + 6
def prI (c : Cfg) : Int := 2 * (c.m + 1) + c.c * turnI c
def movI (c : Cfg) : Int := prI c + 2
def bytI (c : Cfg) : Int := 144 * movI c + 72 * c.ke + 131100
def tickI (c : Cfg) : Int := prI c * c.rope + 2 * c.bank + (c.c + 1) * c.bonus

theorem game_bd {c : Cfg} (h : gameB c = true) : (1 ≤ c.l ∧ c.l ≤ 9999) ∧ (0 ≤ c.m ∧ c.m ≤ 7) ∧ (1 ≤ c.a ∧ c.a ≤ 100) ∧ (40 ≤ c.o ∧ c.o ≤ 500) ∧ (0 ≤ c.t ∧ c.t ≤ 100) ∧ (1 ≤ c.c ∧ c.c ≤ 200) := by
  simp [gameB, inB] at h
  omega
theorem turn_bd {c : Cfg} (h : gameB c = true) : 0 ≤ c.c * turnI c ∧ c.c * turnI c ≤ 1061200 := by
  obtain ⟨_, _, ha, ho, ht, hc⟩ := game_bd h
  have h1 : 0 ≤ turnI c := by unfold turnI; omega
  have h2 : turnI c ≤ 5306 := by unfold turnI; omega
  refine ⟨Int.mul_nonneg (by omega) h1, ?_⟩
  have := Int.mul_le_mul hc.2 h2 h1 (by omega)
  omega
theorem pr_bd {c : Cfg} (h : gameB c = true) : 2 ≤ prI c ∧ prI c ≤ 1061216 := by
  have h1 := turn_bd h
  obtain ⟨_, hm, _⟩ := game_bd h
  unfold prI
  omega
theorem ok_game {c : Cfg} (h : okB c = true) : gameB c = true := by
  simp [okB] at h
  exact h.1.1.1.1.1

set_option maxHeartbeats 800000 in
theorem rprompts_any (c : Cfg) (w : World) (h : gameB c = true) :
    Calls Try.prog 24 #[.agg #[.int .i64 c.l, .int .i64 c.m, .int .i64 c.a, .int .i64 c.o, .int .i64 c.t, .int .i64 c.c]] w fun e w' => e = .returned (.int .i64 (prI c)) ∧ Below w.heap.size w w' := by
  obtain ⟨_, hm, ha, ho, ht, hc⟩ := game_bd h
  have hT := turn_bd h
  have hT' : c.c * (24 * c.a + 4 * c.t + 5 * c.o + 6) = c.c * turnI c := rfl
  have e1 : IntKind.i64.wrap (c.m + 1) = c.m + 1 := IntWalk.i64_in _ (by omega)
  have e2 : IntKind.i64.wrap (2 * (c.m + 1)) = 2 * (c.m + 1) := IntWalk.i64_in _ (by omega)
  have e3 : IntKind.i64.wrap (24 * c.a) = 24 * c.a := IntWalk.i64_in _ (by omega)
  have e4 : IntKind.i64.wrap (4 * c.t) = 4 * c.t := IntWalk.i64_in _ (by omega)
  have e5 : IntKind.i64.wrap (24 * c.a + 4 * c.t) = 24 * c.a + 4 * c.t := IntWalk.i64_in _ (by omega)
  have e6 : IntKind.i64.wrap (5 * c.o) = 5 * c.o := IntWalk.i64_in _ (by omega)
  have e7 : IntKind.i64.wrap (24 * c.a + 4 * c.t + 5 * c.o) = 24 * c.a + 4 * c.t + 5 * c.o := IntWalk.i64_in _ (by omega)
  have e8 : IntKind.i64.wrap (24 * c.a + 4 * c.t + 5 * c.o + 6) = turnI c := IntWalk.i64_in _ (by omega)
  have e9 : IntKind.i64.wrap (c.c * turnI c) = c.c * turnI c := IntWalk.i64_in _ (by omega)
  have e10 : IntKind.i64.wrap (2 * (c.m + 1) + c.c * turnI c) = prI c := IntWalk.i64_in _ (by omega)
  clear hT' hT hm ha ho ht hc
  go_enter Try.func24, Try.ntmps24
  go_wp2
  go_returns
  refine ⟨?_, by go_grown⟩
  simp [e1, e2, e3, e4, e5, e6, e7, e8, e9, e10]

set_option maxHeartbeats 800000 in
theorem prompts_any (c : Cfg) (w : World) :
    Calls Try.prog 16 #[.agg #[.int .i64 c.l, .int .i64 c.m, .int .i64 c.a, .int .i64 c.o, .int .i64 c.t, .int .i64 c.c]] w fun e w' => e = .returned (.tuple #[.int .i64 (if gameB c = true then prI c else 0), .int .i64 (if gameB c = true then 0 else 2)]) ∧ Below w.heap.size w w' := by
  cases h : gameB c
  · go_enter Try.func16, Try.ntmps16
    go_wp2_with (go_at_call 26; refine (pgame_any c _).mono ?_; rintro e w1 ⟨rfl, hb1⟩; have hk1 := keep_at hb1 w.heap.size (by simp); have hB1 : Below w.heap.size w w1 := below_call (by (focus (repeat' (first | (with_reducible exact Below.refl _ _) | (with_reducible assumption) | (with_reducible refine Below.alloc ?_ ?_ _) | (with_reducible refine below_drewN ?_ _) | (with_reducible refine Below.drew ?_) | (with_reducible refine Below.setCell ?_ ?_ _) | omega | (simp; done) | (simp; omega))))) hb1 (by (focus (first | omega | (simp only [World.size_alloc]; done) | (simp only [World.size_alloc]; omega) | (simp; done) | (simp; omega)))); have hZ1 : w.heap.size < w1.heap.size := (by have := hb1.size; simp at this; omega); clear hb1)
    go_returns
    refine ⟨?_, hB1⟩
    simp
  obtain ⟨_, hm, ha, ho, ht, hc⟩ := game_bd h
  have hT := turn_bd h
  have hT' : c.c * (2 * c.a * 12 + 4 * c.t + 4 * c.o + c.o + 6) = c.c * turnI c := by unfold turnI; congr 1; omega
  have e1 : IntKind.i64.wrap (c.m + 1) = c.m + 1 := IntWalk.i64_in _ (by omega)
  have e2 : IntKind.i64.wrap (2 * (c.m + 1)) = 2 * (c.m + 1) := IntWalk.i64_in _ (by omega)
  have e3 : IntKind.i64.wrap (2 * c.a) = 2 * c.a := IntWalk.i64_in _ (by omega)
  have e3' : IntKind.i64.wrap (2 * c.a * 12) = 24 * c.a := (IntWalk.i64_in _ (by omega)).trans (by omega)
  have e4 : IntKind.i64.wrap (4 * c.t) = 4 * c.t := IntWalk.i64_in _ (by omega)
  have e5 : IntKind.i64.wrap (24 * c.a + 4 * c.t) = 24 * c.a + 4 * c.t := IntWalk.i64_in _ (by omega)
  have e6 : IntKind.i64.wrap (4 * c.o) = 4 * c.o := IntWalk.i64_in _ (by omega)
  have e7 : IntKind.i64.wrap (24 * c.a + 4 * c.t + 4 * c.o) = 24 * c.a + 4 * c.t + 4 * c.o := IntWalk.i64_in _ (by omega)
  have e7' : IntKind.i64.wrap (24 * c.a + 4 * c.t + 4 * c.o + c.o) = 24 * c.a + 4 * c.t + 5 * c.o := (IntWalk.i64_in _ (by omega)).trans (by omega)
  have e8 : IntKind.i64.wrap (24 * c.a + 4 * c.t + 5 * c.o + 6) = turnI c := IntWalk.i64_in _ (by omega)
  have e9 : IntKind.i64.wrap (c.c * turnI c) = c.c * turnI c := IntWalk.i64_in _ (by omega)
  have e10 : IntKind.i64.wrap (2 * (c.m + 1) + c.c * turnI c) = prI c := IntWalk.i64_in _ (by omega)
  clear hT' hT hm ha ho ht hc
  go_enter Try.func16, Try.ntmps16
  go_wp2_with (go_at_call 26; refine (pgame_any c _).mono ?_; rintro e w1 ⟨rfl, hb1⟩; have hk1 := keep_at hb1 w.heap.size (by simp); have hB1 : Below w.heap.size w w1 := below_call (by (focus (repeat' (first | (with_reducible exact Below.refl _ _) | (with_reducible assumption) | (with_reducible refine Below.alloc ?_ ?_ _) | (with_reducible refine below_drewN ?_ _) | (with_reducible refine Below.drew ?_) | (with_reducible refine Below.setCell ?_ ?_ _) | omega | (simp; done) | (simp; omega))))) hb1 (by (focus (first | omega | (simp only [World.size_alloc]; done) | (simp only [World.size_alloc]; omega) | (simp; done) | (simp; omega)))); have hZ1 : w.heap.size < w1.heap.size := (by have := hb1.size; simp at this; omega); clear hb1)
  go_returns
  refine ⟨?_, hB1⟩
  simp [e1, e2, e3, e3', e4, e5, e6, e7, e7', e8, e9, e10]

end Go.Proofs.Ytleckpoppmecdaa
