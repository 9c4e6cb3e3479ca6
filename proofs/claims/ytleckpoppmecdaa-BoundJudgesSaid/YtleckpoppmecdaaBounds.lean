/-
  The numbers of a configuration: Ticks, Moves, Bytes, in bound and in its reference.
-/
import Derived.Test.YtleckpoppmecdaaNums
import Derived.Deep.RegionHeld3
import Derived.Deep.QuietTactic
import Derived.BigQuiet
import Derived.BigRegion
set_option linter.unusedSimpArgs false
set_option linter.unusedVariables false
namespace Go.Proofs.Ytleckpoppmecdaa
open Go.RowKit

theorem ok_bd {c : Cfg} (h : okB c = true) : (1 ≤ c.rope ∧ c.rope ≤ 4294967296) ∧ c.bonus ≤ 4294967296 ∧ c.bank ≤ 4294967296 ∧ (1 ≤ c.mi ∧ c.mi ≤ 1000) ∧ (1 ≤ c.ke ∧ c.ke ≤ 1000) := by
  simp [okB, clockB, inB] at h
  omega
theorem byt_bd {c : Cfg} (h : okB c = true) : 131748 ≤ bytI c ∧ bytI c ≤ 153018492 := by
  have h1 := pr_bd (ok_game h)
  have h2 := ok_bd h
  unfold bytI movI
  omega
theorem tick_bd {c : Cfg} (h : okB c = true) (hp : 0 ≤ c.bank ∧ 0 ≤ c.bonus) : (0 ≤ prI c * c.rope ∧ prI c * c.rope ≤ 4557888014647296) ∧ (0 ≤ c.c * c.bonus ∧ c.c * c.bonus ≤ 858993459200) ∧ (c.c + 1) * c.bonus = c.c * c.bonus + c.bonus := by
  have h1 := pr_bd (ok_game h)
  obtain ⟨_, _, _, _, _, hc⟩ := game_bd (ok_game h)
  obtain ⟨hr, hb, _⟩ := ok_bd h
  refine ⟨⟨Int.mul_nonneg (by omega) (by omega), ?_⟩, ⟨Int.mul_nonneg (by omega) hp.2, ?_⟩, by rw [Int.add_mul, Int.one_mul]⟩
  · have := Int.mul_le_mul h1.2 hr.2 (by omega) (by omega)
    omega
  · have := Int.mul_le_mul hc.2 hb hp.2 (by omega)
    omega

set_option maxHeartbeats 800000 in
theorem bprompts_any (c : Cfg) (w : World) :
    Calls Try.prog 28 #[.agg #[.int .i64 c.l, .int .i64 c.m, .int .i64 c.a, .int .i64 c.o, .int .i64 c.t, .int .i64 c.c, .int .u64 c.rope, .int .u64 c.bank, .int .u64 c.bonus, .int .u64 c.most, .int .i64 c.str, .int .u64 c.gr, .string c.s0, .string c.s1, .int .i64 c.mi, .int .i64 c.ke]] w fun e w' => e = .returned (.tuple #[.int .i64 (if okB c = true then prI c else 0), .int .i64 (if okB c = true then 0 else 2)]) ∧ Below w.heap.size w w' := by
  cases h : okB c
  · go_enter Try.func28, Try.ntmps28
    go_wp2_with (go_at_call 30; refine (check_any c _).mono ?_; rintro e w1 ⟨rfl, hb1⟩; have hk1 := keep_at hb1 w.heap.size (by simp); have hB1 : Below w.heap.size w w1 := below_call (by (focus (repeat' (first | (with_reducible exact Below.refl _ _) | (with_reducible assumption) | (with_reducible refine Below.alloc ?_ ?_ _) | (with_reducible refine below_drewN ?_ _) | (with_reducible refine Below.drew ?_) | (with_reducible refine Below.setCell ?_ ?_ _) | omega | (simp; done) | (simp; omega))))) hb1 (by (focus (first | omega | (simp only [World.size_alloc]; done) | (simp only [World.size_alloc]; omega) | (simp; done) | (simp; omega)))); have hZ1 : w.heap.size < w1.heap.size := (by have := hb1.size; simp at this; omega); clear hb1)
    go_returns
    refine ⟨?_, hB1⟩
    simp
  have hg := ok_game h
  go_enter Try.func28, Try.ntmps28
  go_wp2_with (first | (go_at_call 30; refine (check_any c _).mono ?_; rintro e w1 ⟨rfl, hb1⟩; have hk1 := keep_at hb1 w.heap.size (by simp); have hB1 : Below w.heap.size w w1 := below_call (by (focus (repeat' (first | (with_reducible exact Below.refl _ _) | (with_reducible assumption) | (with_reducible refine Below.alloc ?_ ?_ _) | (with_reducible refine below_drewN ?_ _) | (with_reducible refine Below.drew ?_) | (with_reducible refine Below.setCell ?_ ?_ _) | omega | (simp; done) | (simp; omega))))) hb1 (by (focus (first | omega | (simp only [World.size_alloc]; done) | (simp only [World.size_alloc]; omega) | (simp; done) | (simp; omega)))); have hZ1 : w.heap.size < w1.heap.size := (by have := hb1.size; simp at this; omega); clear hb1) | (go_at_call 16; refine (prompts_any c _).mono ?_; rintro e w2 ⟨rfl, hb2⟩; have hB2 := below_call hB1 hb2 hB1.size) | fail)
  go_returns
  refine ⟨?_, hB2⟩
  simp

set_option maxHeartbeats 800000 in
theorem bmoves_any (c : Cfg) (w : World) :
    Calls Try.prog 22 #[.agg #[.int .i64 c.l, .int .i64 c.m, .int .i64 c.a, .int .i64 c.o, .int .i64 c.t, .int .i64 c.c, .int .u64 c.rope, .int .u64 c.bank, .int .u64 c.bonus, .int .u64 c.most, .int .i64 c.str, .int .u64 c.gr, .string c.s0, .string c.s1, .int .i64 c.mi, .int .i64 c.ke]] w fun e w' => e = .returned (.tuple #[.int .i64 (if okB c = true then movI c else 0), .int .i64 (if okB c = true then 0 else 2)]) ∧ Below w.heap.size w w' := by
  cases h : okB c
  · go_enter Try.func22, Try.ntmps22
    go_wp2_with (go_at_call 28; refine (bprompts_any c _).mono ?_; rintro e w1 ⟨rfl, hb1⟩; have hk1 := keep_at hb1 w.heap.size (by simp); have hB1 : Below w.heap.size w w1 := below_call (by (focus (repeat' (first | (with_reducible exact Below.refl _ _) | (with_reducible assumption) | (with_reducible refine Below.alloc ?_ ?_ _) | (with_reducible refine below_drewN ?_ _) | (with_reducible refine Below.drew ?_) | (with_reducible refine Below.setCell ?_ ?_ _) | omega | (simp; done) | (simp; omega))))) hb1 (by (focus (first | omega | (simp only [World.size_alloc]; done) | (simp only [World.size_alloc]; omega) | (simp; done) | (simp; omega)))); have hZ1 : w.heap.size < w1.heap.size := (by have := hb1.size; simp at this; omega); clear hb1)
    go_returns
    refine ⟨?_, hB1⟩
    simp
  have hg := pr_bd (ok_game h)
  have e1 : IntKind.i64.wrap (prI c + 2) = movI c := IntWalk.i64_in _ (by omega)
  clear hg
  go_enter Try.func22, Try.ntmps22
  go_wp2_with (go_at_call 28; refine (bprompts_any c _).mono ?_; rintro e w1 ⟨rfl, hb1⟩; have hk1 := keep_at hb1 w.heap.size (by simp); have hB1 : Below w.heap.size w w1 := below_call (by (focus (repeat' (first | (with_reducible exact Below.refl _ _) | (with_reducible assumption) | (with_reducible refine Below.alloc ?_ ?_ _) | (with_reducible refine below_drewN ?_ _) | (with_reducible refine Below.drew ?_) | (with_reducible refine Below.setCell ?_ ?_ _) | omega | (simp; done) | (simp; omega))))) hb1 (by (focus (first | omega | (simp only [World.size_alloc]; done) | (simp only [World.size_alloc]; omega) | (simp; done) | (simp; omega)))); have hZ1 : w.heap.size < w1.heap.size := (by have := hb1.size; simp at this; omega); clear hb1)
  go_returns
  refine ⟨?_, hB1⟩
  simp [e1]

set_option maxHeartbeats 800000 in
theorem bbytes_any (c : Cfg) (w : World) :
    Calls Try.prog 23 #[.agg #[.int .i64 c.l, .int .i64 c.m, .int .i64 c.a, .int .i64 c.o, .int .i64 c.t, .int .i64 c.c, .int .u64 c.rope, .int .u64 c.bank, .int .u64 c.bonus, .int .u64 c.most, .int .i64 c.str, .int .u64 c.gr, .string c.s0, .string c.s1, .int .i64 c.mi, .int .i64 c.ke]] w fun e w' => e = .returned (.tuple #[.int .i64 (if okB c = true then bytI c else 0), .int .i64 (if okB c = true then 0 else 2)]) ∧ Below w.heap.size w w' := by
  cases h : okB c
  · go_enter Try.func23, Try.ntmps23
    go_wp2_with (go_at_call 22; refine (bmoves_any c _).mono ?_; rintro e w1 ⟨rfl, hb1⟩; have hk1 := keep_at hb1 w.heap.size (by simp); have hB1 : Below w.heap.size w w1 := below_call (by (focus (repeat' (first | (with_reducible exact Below.refl _ _) | (with_reducible assumption) | (with_reducible refine Below.alloc ?_ ?_ _) | (with_reducible refine below_drewN ?_ _) | (with_reducible refine Below.drew ?_) | (with_reducible refine Below.setCell ?_ ?_ _) | omega | (simp; done) | (simp; omega))))) hb1 (by (focus (first | omega | (simp only [World.size_alloc]; done) | (simp only [World.size_alloc]; omega) | (simp; done) | (simp; omega)))); have hZ1 : w.heap.size < w1.heap.size := (by have := hb1.size; simp at this; omega); clear hb1)
    go_returns
    refine ⟨?_, hB1⟩
    simp
  have hg := pr_bd (ok_game h)
  have hk := ok_bd h
  have hm : movI c = prI c + 2 := rfl
  have e1 : IntKind.i64.wrap (144 * movI c) = 144 * movI c := IntWalk.i64_in _ (by omega)
  have e2 : IntKind.i64.wrap (72 * c.ke) = 72 * c.ke := IntWalk.i64_in _ (by omega)
  have e3 : IntKind.i64.wrap (144 * movI c + 72 * c.ke) = 144 * movI c + 72 * c.ke := IntWalk.i64_in _ (by omega)
  have e4 : IntKind.i64.wrap (144 * movI c + 72 * c.ke + 131100) = bytI c := IntWalk.i64_in _ (by omega)
  clear hg hm hk
  go_enter Try.func23, Try.ntmps23
  go_wp2_with (go_at_call 22; refine (bmoves_any c _).mono ?_; rintro e w1 ⟨rfl, hb1⟩; have hk1 := keep_at hb1 w.heap.size (by simp); have hB1 : Below w.heap.size w w1 := below_call (by (focus (repeat' (first | (with_reducible exact Below.refl _ _) | (with_reducible assumption) | (with_reducible refine Below.alloc ?_ ?_ _) | (with_reducible refine below_drewN ?_ _) | (with_reducible refine Below.drew ?_) | (with_reducible refine Below.setCell ?_ ?_ _) | omega | (simp; done) | (simp; omega))))) hb1 (by (focus (first | omega | (simp only [World.size_alloc]; done) | (simp only [World.size_alloc]; omega) | (simp; done) | (simp; omega)))); have hZ1 : w.heap.size < w1.heap.size := (by have := hb1.size; simp at this; omega); clear hb1)
  go_returns
  refine ⟨?_, hB1⟩
  simp [e1, e2, e3, e4]

set_option maxHeartbeats 800000 in
theorem bticks_any (c : Cfg) (w : World) (hp : 0 ≤ c.bank ∧ 0 ≤ c.bonus) :
    Calls Try.prog 21 #[.agg #[.int .i64 c.l, .int .i64 c.m, .int .i64 c.a, .int .i64 c.o, .int .i64 c.t, .int .i64 c.c, .int .u64 c.rope, .int .u64 c.bank, .int .u64 c.bonus, .int .u64 c.most, .int .i64 c.str, .int .u64 c.gr, .string c.s0, .string c.s1, .int .i64 c.mi, .int .i64 c.ke]] w fun e w' => e = .returned (.tuple #[.int .u64 (if okB c = true then tickI c else 0), .int .i64 (if okB c = true then 0 else 2)]) ∧ Below w.heap.size w w' := by
  cases h : okB c
  · go_enter Try.func21, Try.ntmps21
    go_wp2_with (go_at_call 28; refine (bprompts_any c _).mono ?_; rintro e w1 ⟨rfl, hb1⟩; have hk1 := keep_at hb1 w.heap.size (by simp); have hB1 : Below w.heap.size w w1 := below_call (by (focus (repeat' (first | (with_reducible exact Below.refl _ _) | (with_reducible assumption) | (with_reducible refine Below.alloc ?_ ?_ _) | (with_reducible refine below_drewN ?_ _) | (with_reducible refine Below.drew ?_) | (with_reducible refine Below.setCell ?_ ?_ _) | omega | (simp; done) | (simp; omega))))) hb1 (by (focus (first | omega | (simp only [World.size_alloc]; done) | (simp only [World.size_alloc]; omega) | (simp; done) | (simp; omega)))); have hZ1 : w.heap.size < w1.heap.size := (by have := hb1.size; simp at this; omega); clear hb1)
    go_returns
    refine ⟨?_, hB1⟩
    simp
  have hg := pr_bd (ok_game h)
  obtain ⟨_, _, _, _, _, hc⟩ := game_bd (ok_game h)
  obtain ⟨hr, hb, hk, _⟩ := ok_bd h
  obtain ⟨t1, t2, t3⟩ := tick_bd h hp
  have e1 : IntKind.u64.wrap (prI c) = prI c := IntWalk.u64_in _ (by omega)
  have e2 : IntKind.u64.wrap (prI c * c.rope) = prI c * c.rope := IntWalk.u64_in _ (by omega)
  have e3 : IntKind.u64.wrap (2 * c.bank) = 2 * c.bank := IntWalk.u64_in _ (by omega)
  have e4 : IntKind.u64.wrap (prI c * c.rope + 2 * c.bank) = prI c * c.rope + 2 * c.bank := IntWalk.u64_in _ (by omega)
  have e5 : IntKind.i64.wrap (c.c + 1) = c.c + 1 := IntWalk.i64_in _ (by omega)
  have e6 : IntKind.u64.wrap (c.c + 1) = c.c + 1 := IntWalk.u64_in _ (by omega)
  have e7 : IntKind.u64.wrap ((c.c + 1) * c.bonus) = (c.c + 1) * c.bonus := IntWalk.u64_in _ (by omega)
  have e8 : IntKind.u64.wrap (prI c * c.rope + 2 * c.bank + (c.c + 1) * c.bonus) = tickI c := IntWalk.u64_in _ (by omega)
  clear hg hc hr hb hk t1 t2 t3
  go_enter Try.func21, Try.ntmps21
  go_wp2_with (go_at_call 28; refine (bprompts_any c _).mono ?_; rintro e w1 ⟨rfl, hb1⟩; have hk1 := keep_at hb1 w.heap.size (by simp); have hB1 : Below w.heap.size w w1 := below_call (by (focus (repeat' (first | (with_reducible exact Below.refl _ _) | (with_reducible assumption) | (with_reducible refine Below.alloc ?_ ?_ _) | (with_reducible refine below_drewN ?_ _) | (with_reducible refine Below.drew ?_) | (with_reducible refine Below.setCell ?_ ?_ _) | omega | (simp; done) | (simp; omega))))) hb1 (by (focus (first | omega | (simp only [World.size_alloc]; done) | (simp only [World.size_alloc]; omega) | (simp; done) | (simp; omega)))); have hZ1 : w.heap.size < w1.heap.size := (by have := hb1.size; simp at this; omega); clear hb1)
  go_returns
  refine ⟨?_, by go_grown⟩
  simp [e1, e2, e3, e4, e5, e6, e7, e8]

set_option maxHeartbeats 800000 in
theorem rmoves_any (c : Cfg) (w : World) (h : okB c = true) :
    Calls Try.prog 11 #[.agg #[.int .i64 c.l, .int .i64 c.m, .int .i64 c.a, .int .i64 c.o, .int .i64 c.t, .int .i64 c.c, .int .u64 c.rope, .int .u64 c.bank, .int .u64 c.bonus, .int .u64 c.most, .int .i64 c.str, .int .u64 c.gr, .string c.s0, .string c.s1, .int .i64 c.mi, .int .i64 c.ke]] w fun e w' => e = .returned (.int .i64 (movI c)) ∧ Below w.heap.size w w' := by
  have hg := pr_bd (ok_game h)
  have hG := ok_game h
  have e1 : IntKind.i64.wrap (prI c + 2) = movI c := IntWalk.i64_in _ (by omega)
  clear hg
  go_enter Try.func11, Try.ntmps11
  go_wp2_with (go_at_call 24; refine (rprompts_any c _ hG).mono ?_; rintro e w1 ⟨rfl, hb1⟩; have hk1 := keep_at hb1 w.heap.size (by simp); have hB1 : Below w.heap.size w w1 := below_call (by (focus (repeat' (first | (with_reducible exact Below.refl _ _) | (with_reducible assumption) | (with_reducible refine Below.alloc ?_ ?_ _) | (with_reducible refine below_drewN ?_ _) | (with_reducible refine Below.drew ?_) | (with_reducible refine Below.setCell ?_ ?_ _) | omega | (simp; done) | (simp; omega))))) hb1 (by (focus (first | omega | (simp only [World.size_alloc]; done) | (simp only [World.size_alloc]; omega) | (simp; done) | (simp; omega)))); have hZ1 : w.heap.size < w1.heap.size := (by have := hb1.size; simp at this; omega); clear hb1)
  go_returns
  refine ⟨?_, hB1⟩
  simp [e1]

set_option maxHeartbeats 800000 in
theorem rticks_any (c : Cfg) (w : World) (hp : 0 ≤ c.bank ∧ 0 ≤ c.bonus) (h : okB c = true) :
    Calls Try.prog 10 #[.agg #[.int .i64 c.l, .int .i64 c.m, .int .i64 c.a, .int .i64 c.o, .int .i64 c.t, .int .i64 c.c, .int .u64 c.rope, .int .u64 c.bank, .int .u64 c.bonus, .int .u64 c.most, .int .i64 c.str, .int .u64 c.gr, .string c.s0, .string c.s1, .int .i64 c.mi, .int .i64 c.ke]] w fun e w' => e = .returned (.int .u64 (tickI c)) ∧ Below w.heap.size w w' := by
  have hg := pr_bd (ok_game h)
  have hG := ok_game h
  obtain ⟨_, _, _, _, _, hc⟩ := game_bd (ok_game h)
  obtain ⟨hr, hb, hk, _⟩ := ok_bd h
  obtain ⟨t1, t2, t3⟩ := tick_bd h hp
  have e1 : IntKind.u64.wrap (prI c) = prI c := IntWalk.u64_in _ (by omega)
  have e2 : IntKind.u64.wrap (prI c * c.rope) = prI c * c.rope := IntWalk.u64_in _ (by omega)
  have e3 : IntKind.u64.wrap (prI c * c.rope + c.bank) = prI c * c.rope + c.bank := IntWalk.u64_in _ (by omega)
  have e4 : IntKind.u64.wrap (prI c * c.rope + c.bank + c.bank) = prI c * c.rope + c.bank + c.bank := IntWalk.u64_in _ (by omega)
  have e5 : IntKind.u64.wrap (prI c * c.rope + c.bank + c.bank + c.bonus) = prI c * c.rope + c.bank + c.bank + c.bonus := IntWalk.u64_in _ (by omega)
  have e6 : IntKind.u64.wrap c.c = c.c := IntWalk.u64_in _ (by omega)
  have e7 : IntKind.u64.wrap (c.c * c.bonus) = c.c * c.bonus := IntWalk.u64_in _ (by omega)
  have e8 : IntKind.u64.wrap (prI c * c.rope + c.bank + c.bank + c.bonus + c.c * c.bonus) = tickI c := (IntWalk.u64_in _ (by omega)).trans (by unfold tickI; omega)
  clear hg hc hr hb hk t1 t2 t3
  go_enter Try.func10, Try.ntmps10
  go_wp2_with (go_at_call 24; refine (rprompts_any c _ hG).mono ?_; rintro e w1 ⟨rfl, hb1⟩; have hk1 := keep_at hb1 w.heap.size (by simp); have hB1 : Below w.heap.size w w1 := below_call (by (focus (repeat' (first | (with_reducible exact Below.refl _ _) | (with_reducible assumption) | (with_reducible refine Below.alloc ?_ ?_ _) | (with_reducible refine below_drewN ?_ _) | (with_reducible refine Below.drew ?_) | (with_reducible refine Below.setCell ?_ ?_ _) | omega | (simp; done) | (simp; omega))))) hb1 (by (focus (first | omega | (simp only [World.size_alloc]; done) | (simp only [World.size_alloc]; omega) | (simp; done) | (simp; omega)))); have hZ1 : w.heap.size < w1.heap.size := (by have := hb1.size; simp at this; omega); clear hb1)
  go_returns
  refine ⟨?_, hB1⟩
  simp [e1, e2, e3, e4, e5, e6, e7, e8]

set_option maxHeartbeats 800000 in
theorem rbytes_any (c : Cfg) (w : World) (h : okB c = true) :
    Calls Try.prog 12 #[.agg #[.int .i64 c.l, .int .i64 c.m, .int .i64 c.a, .int .i64 c.o, .int .i64 c.t, .int .i64 c.c, .int .u64 c.rope, .int .u64 c.bank, .int .u64 c.bonus, .int .u64 c.most, .int .i64 c.str, .int .u64 c.gr, .string c.s0, .string c.s1, .int .i64 c.mi, .int .i64 c.ke]] w fun e w' => e = .returned (.int .i64 (bytI c)) ∧ Below w.heap.size w w' := by
  have hg := pr_bd (ok_game h)
  have hk := ok_bd h
  have hm : movI c = prI c + 2 := rfl
  have HK : Hid (∀ W W' : World, (W.cell? ⟨w.heap.size, 0, none⟩ = some (.int .i64 c.l) ∧ W.cell? ⟨w.heap.size, 1, none⟩ = some (.int .i64 c.m) ∧ W.cell? ⟨w.heap.size, 2, none⟩ = some (.int .i64 c.a) ∧ W.cell? ⟨w.heap.size, 3, none⟩ = some (.int .i64 c.o) ∧ W.cell? ⟨w.heap.size, 4, none⟩ = some (.int .i64 c.t) ∧ W.cell? ⟨w.heap.size, 5, none⟩ = some (.int .i64 c.c) ∧ W.cell? ⟨w.heap.size, 6, none⟩ = some (.int .u64 c.rope) ∧ W.cell? ⟨w.heap.size, 7, none⟩ = some (.int .u64 c.bank) ∧ W.cell? ⟨w.heap.size, 8, none⟩ = some (.int .u64 c.bonus) ∧ W.cell? ⟨w.heap.size, 9, none⟩ = some (.int .u64 c.most) ∧ W.cell? ⟨w.heap.size, 10, none⟩ = some (.int .i64 c.str) ∧ W.cell? ⟨w.heap.size, 11, none⟩ = some (.int .u64 c.gr) ∧ W.cell? ⟨w.heap.size, 12, none⟩ = some (.string c.s0) ∧ W.cell? ⟨w.heap.size, 13, none⟩ = some (.string c.s1) ∧ W.cell? ⟨w.heap.size, 14, none⟩ = some (.int .i64 c.mi) ∧ W.cell? ⟨w.heap.size, 15, none⟩ = some (.int .i64 c.ke) ∧ w.heap.size + 1 ≤ W.heap.size ∧ Below w.heap.size w W) → Below W.heap.size W W' → (W'.cell? ⟨w.heap.size, 0, none⟩ = some (.int .i64 c.l) ∧ W'.cell? ⟨w.heap.size, 1, none⟩ = some (.int .i64 c.m) ∧ W'.cell? ⟨w.heap.size, 2, none⟩ = some (.int .i64 c.a) ∧ W'.cell? ⟨w.heap.size, 3, none⟩ = some (.int .i64 c.o) ∧ W'.cell? ⟨w.heap.size, 4, none⟩ = some (.int .i64 c.t) ∧ W'.cell? ⟨w.heap.size, 5, none⟩ = some (.int .i64 c.c) ∧ W'.cell? ⟨w.heap.size, 6, none⟩ = some (.int .u64 c.rope) ∧ W'.cell? ⟨w.heap.size, 7, none⟩ = some (.int .u64 c.bank) ∧ W'.cell? ⟨w.heap.size, 8, none⟩ = some (.int .u64 c.bonus) ∧ W'.cell? ⟨w.heap.size, 9, none⟩ = some (.int .u64 c.most) ∧ W'.cell? ⟨w.heap.size, 10, none⟩ = some (.int .i64 c.str) ∧ W'.cell? ⟨w.heap.size, 11, none⟩ = some (.int .u64 c.gr) ∧ W'.cell? ⟨w.heap.size, 12, none⟩ = some (.string c.s0) ∧ W'.cell? ⟨w.heap.size, 13, none⟩ = some (.string c.s1) ∧ W'.cell? ⟨w.heap.size, 14, none⟩ = some (.int .i64 c.mi) ∧ W'.cell? ⟨w.heap.size, 15, none⟩ = some (.int .i64 c.ke) ∧ w.heap.size + 1 ≤ W'.heap.size ∧ Below w.heap.size w W')) := by
    intro W W' ⟨h0, h1, h2, h3, h4, h5, h6, h7, h8, h9, h10, h11, h12, h13, h14, h15, hz, hB⟩ hb
    have hz' := hb.size
    have c0 := keep_at hb (w.heap.size) (by omega)
    exact ⟨(c0 _).trans h0, (c0 _).trans h1, (c0 _).trans h2, (c0 _).trans h3, (c0 _).trans h4, (c0 _).trans h5, (c0 _).trans h6, (c0 _).trans h7, (c0 _).trans h8, (c0 _).trans h9, (c0 _).trans h10, (c0 _).trans h11, (c0 _).trans h12, (c0 _).trans h13, (c0 _).trans h14, (c0 _).trans h15, by omega, below_call hB hb (by omega)⟩
  have e1 : IntKind.i64.wrap (144 * movI c) = 144 * movI c := IntWalk.i64_in _ (by omega)
  have e2 : IntKind.i64.wrap (72 * c.ke) = 72 * c.ke := IntWalk.i64_in _ (by omega)
  have e3 : IntKind.i64.wrap (144 * movI c + 72 * c.ke) = 144 * movI c + 72 * c.ke := IntWalk.i64_in _ (by omega)
  have e4 : IntKind.i64.wrap (144 * movI c + 72 * c.ke + 131100) = bytI c := IntWalk.i64_in _ (by omega)
  clear hg hm hk
  go_enter Try.func12, Try.ntmps12
  go_wp2
  go_region_held3 (fun W => W.cell? ⟨w.heap.size, 0, none⟩ = some (.int .i64 c.l) ∧ W.cell? ⟨w.heap.size, 1, none⟩ = some (.int .i64 c.m) ∧ W.cell? ⟨w.heap.size, 2, none⟩ = some (.int .i64 c.a) ∧ W.cell? ⟨w.heap.size, 3, none⟩ = some (.int .i64 c.o) ∧ W.cell? ⟨w.heap.size, 4, none⟩ = some (.int .i64 c.t) ∧ W.cell? ⟨w.heap.size, 5, none⟩ = some (.int .i64 c.c) ∧ W.cell? ⟨w.heap.size, 6, none⟩ = some (.int .u64 c.rope) ∧ W.cell? ⟨w.heap.size, 7, none⟩ = some (.int .u64 c.bank) ∧ W.cell? ⟨w.heap.size, 8, none⟩ = some (.int .u64 c.bonus) ∧ W.cell? ⟨w.heap.size, 9, none⟩ = some (.int .u64 c.most) ∧ W.cell? ⟨w.heap.size, 10, none⟩ = some (.int .i64 c.str) ∧ W.cell? ⟨w.heap.size, 11, none⟩ = some (.int .u64 c.gr) ∧ W.cell? ⟨w.heap.size, 12, none⟩ = some (.string c.s0) ∧ W.cell? ⟨w.heap.size, 13, none⟩ = some (.string c.s1) ∧ W.cell? ⟨w.heap.size, 14, none⟩ = some (.int .i64 c.mi) ∧ W.cell? ⟨w.heap.size, 15, none⟩ = some (.int .i64 c.ke) ∧ w.heap.size + 1 ≤ W.heap.size ∧ Below w.heap.size w W)
    (first
      | exact HK.out _ _ (by assumption) hb
      | (refine ⟨?_, ?_, ?_, ?_, ?_, ?_, ?_, ?_, ?_, ?_, ?_, ?_, ?_, ?_, ?_, ?_, ?_, ?_⟩ <;> first | (simp; done) | (focus (repeat' (first | (with_reducible exact Below.refl _ _) | (with_reducible assumption) | (with_reducible refine Below.alloc ?_ ?_ _) | (with_reducible refine below_drewN ?_ _) | (with_reducible refine Below.drew ?_) | (with_reducible refine Below.setCell ?_ ?_ _) | omega | (simp; done) | (simp; omega)))))
      | (obtain ⟨g0, g1, g2, g3, g4, g5, g6, g7, g8, g9, g10, g11, g12, g13, g14, g15, g16, g17⟩ := HK.out _ _ (by assumption) hb; assumption)
      | (simp; done)
      | (focus (repeat' (first | (with_reducible exact Below.refl _ _) | (with_reducible assumption) | (with_reducible refine Below.alloc ?_ ?_ _) | (with_reducible refine below_drewN ?_ _) | (with_reducible refine Below.drew ?_) | (with_reducible refine Below.setCell ?_ ?_ _) | omega | (simp; done) | (simp; omega)))))
    (first
      | (go_at_call 11; refine (rmoves_any c _ h).mono ?_; rintro e w' ⟨rfl, hb⟩))
  all_goals go_wp2
  all_goals go_ret
  all_goals exact ⟨rfl, by go_split_ands; assumption⟩

end Go.Proofs.Ytleckpoppmecdaa
