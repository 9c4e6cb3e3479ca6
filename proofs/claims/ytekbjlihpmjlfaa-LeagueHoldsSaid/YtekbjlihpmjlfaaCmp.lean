/-
  The sorts: the library's contract laid, the closures walked.
-/
import Derived.Test.YtekbjlihpmjlfaaPlain
import Derived.Test.YtekbjlihpmjlfaaSched
import Derived.Test.YtekbjlihpmjlfaaLater
import Derived.Test.YtekbjlihpmjlfaaOnlyF
set_option linter.unusedSimpArgs false
set_option linter.unusedVariables false
namespace Go.Proofs.Ytekbjlihpmjlfaa
open Go.Shelf Go.Lib Go.Sort

def sortRow_ren : Go.Shelf.Ren := ⟨fun | 6 => 25 | 15 => 38 | 14 => 37 | 28 => 51 | 29 => 52 | 20 => 43 | 21 => 44 | 22 => 45 | 23 => 46 | 24 => 47 | 25 => 48 | 26 => 49 | 27 => 50 | 46 => 61 | 47 => 62 | 48 => 63 | 49 => 64 | 50 => 65 | 57 => 69 | n => n, fun | 22 => 24 | 24 => 33 | 25 => 66 | 3 => 3 | 39 => 77 | 0 => 0 | 53 => 90 | 55 => 92 | 4 => 4 | 46 => 83 | 45 => 82 | 50 => 87 | 5 => 5 | 9 => 9 | 66 => 98 | 70 => 102 | 76 => 106 | 77 => 62 | n => n, fun | n => n⟩
theorem sortRow : Go.Proofs.SlLaysF0.n6 Try.prog sortRow_ren := {
  mixed := by kernel_rfl,
  f6 := ⟨Try.f25.name, by decide, Try.func25.trans (congrArg some (by kernel_rfl))⟩,
  f14 := ⟨Try.f37.name, by decide, Try.func37.trans (congrArg some (by kernel_rfl))⟩,
  f15 := Try.func38.trans (congrArg some (by kernel_rfl)),
  f20 := ⟨Try.f43.name, by decide, Try.func43.trans (congrArg some (by kernel_rfl))⟩,
  f21 := ⟨Try.f44.name, by decide, Try.func44.trans (congrArg some (by kernel_rfl))⟩,
  f22 := ⟨Try.f45.name, by decide, Try.func45.trans (congrArg some (by kernel_rfl))⟩,
  f23 := ⟨Try.f46.name, by decide, Try.func46.trans (congrArg some (by kernel_rfl))⟩,
  f24 := ⟨Try.f47.name, by decide, Try.func47.trans (congrArg some (by kernel_rfl))⟩,
  f25 := ⟨Try.f48.name, by decide, Try.func48.trans (congrArg some (by kernel_rfl))⟩,
  f26 := ⟨Try.f49.name, by decide, Try.func49.trans (congrArg some (by kernel_rfl))⟩,
  f27 := ⟨Try.f50.name, by decide, Try.func50.trans (congrArg some (by kernel_rfl))⟩,
  f28 := Try.func51.trans (congrArg some (by kernel_rfl)),
  f29 := Try.func52.trans (congrArg some (by kernel_rfl)),
  f46 := ⟨Try.f61.name, by decide, Try.func61.trans (congrArg some (by kernel_rfl))⟩,
  f47 := Try.func62.trans (congrArg some (by kernel_rfl)),
  f48 := Try.func63.trans (congrArg some (by kernel_rfl)),
  f49 := ⟨Try.f64.name, by decide, Try.func64.trans (congrArg some (by kernel_rfl))⟩,
  f50 := ⟨Try.f65.name, by decide, Try.func65.trans (congrArg some (by kernel_rfl))⟩,
  f57 := ⟨Try.f69.name, by decide, Try.func69.trans (congrArg some (by kernel_rfl))⟩,
  t0 := Try.underlying0,
  a0 := Try.isAgg0,
  z0 := Try.sizeOf0,
  v0 := Try.zeroValue0,
  t3 := Try.underlying3,
  a3 := Try.isAgg3,
  z3 := Try.sizeOf3,
  v3 := Try.zeroValue3,
  t4 := Try.underlying4,
  a4 := Try.isAgg4,
  z4 := Try.sizeOf4,
  v4 := Try.zeroValue4,
  t5 := Try.underlying5,
  a5 := Try.isAgg5,
  z5 := Try.sizeOf5,
  v5 := Try.zeroValue5,
  t9 := Try.underlying9,
  a9 := Try.isAgg9,
  z9 := Try.sizeOf9,
  v9 := Try.zeroValue9,
  t22 := Try.underlying24,
  a22 := Try.isAgg24,
  z22 := Try.sizeOf24,
  v22 := Try.zeroValue24,
  t25 := Try.underlying66,
  a25 := Try.isAgg66,
  z25 := Try.sizeOf66,
  v25 := Try.zeroValue66,
  t39 := Try.underlying77,
  a39 := Try.isAgg77,
  z39 := Try.sizeOf77,
  v39 := Try.zeroValue77,
  t45 := Try.underlying82,
  a45 := Try.isAgg82,
  z45 := Try.sizeOf82,
  v45 := Try.zeroValue82,
  t46 := Try.underlying83,
  a46 := Try.isAgg83,
  z46 := Try.sizeOf83,
  v46 := Try.zeroValue83,
  t50 := Try.underlying87,
  a50 := Try.isAgg87,
  z50 := Try.sizeOf87,
  v50 := Try.zeroValue87,
  t53 := Try.underlying90,
  a53 := Try.isAgg90,
  z53 := Try.sizeOf90,
  v53 := Try.zeroValue90,
  t55 := Try.underlying92,
  a55 := Try.isAgg92,
  z55 := Try.sizeOf92,
  v55 := Try.zeroValue92,
  t66 := Try.underlying98,
  a66 := Try.isAgg98,
  z66 := Try.sizeOf98,
  v66 := Try.zeroValue98,
  t70 := Try.underlying102,
  a70 := Try.isAgg102,
  z70 := Try.sizeOf102,
  v70 := Try.zeroValue102,
  t76 := Try.underlying106,
  a76 := Try.isAgg106,
  z76 := Try.sizeOf106,
  v76 := Try.zeroValue106,
  t77 := Try.underlying62,
  a77 := Try.isAgg62,
  z77 := Try.sizeOf62,
  v77 := Try.zeroValue62 }

def sortDuel_ren : Go.Shelf.Ren := ⟨fun | 6 => 32 | 15 => 38 | 14 => 41 | 28 => 51 | 29 => 52 | 20 => 53 | 21 => 54 | 22 => 55 | 23 => 56 | 24 => 57 | 25 => 58 | 26 => 59 | 27 => 60 | 46 => 66 | 47 => 62 | 48 => 63 | 49 => 67 | 50 => 68 | 57 => 70 | n => n, fun | 22 => 55 | 24 => 57 | 25 => 72 | 3 => 3 | 39 => 77 | 0 => 0 | 53 => 90 | 55 => 92 | 4 => 4 | 46 => 83 | 45 => 82 | 50 => 87 | 5 => 5 | 9 => 9 | 66 => 98 | 70 => 102 | 76 => 106 | 77 => 62 | n => n, fun | n => n⟩
theorem sortDuel : Go.Proofs.SlLaysF0.n6 Try.prog sortDuel_ren := {
  mixed := by kernel_rfl,
  f6 := ⟨Try.f32.name, by decide, Try.func32.trans (congrArg some (by kernel_rfl))⟩,
  f14 := ⟨Try.f41.name, by decide, Try.func41.trans (congrArg some (by kernel_rfl))⟩,
  f15 := Try.func38.trans (congrArg some (by kernel_rfl)),
  f20 := ⟨Try.f53.name, by decide, Try.func53.trans (congrArg some (by kernel_rfl))⟩,
  f21 := ⟨Try.f54.name, by decide, Try.func54.trans (congrArg some (by kernel_rfl))⟩,
  f22 := ⟨Try.f55.name, by decide, Try.func55.trans (congrArg some (by kernel_rfl))⟩,
  f23 := ⟨Try.f56.name, by decide, Try.func56.trans (congrArg some (by kernel_rfl))⟩,
  f24 := ⟨Try.f57.name, by decide, Try.func57.trans (congrArg some (by kernel_rfl))⟩,
  f25 := ⟨Try.f58.name, by decide, Try.func58.trans (congrArg some (by kernel_rfl))⟩,
  f26 := ⟨Try.f59.name, by decide, Try.func59.trans (congrArg some (by kernel_rfl))⟩,
  f27 := ⟨Try.f60.name, by decide, Try.func60.trans (congrArg some (by kernel_rfl))⟩,
  f28 := Try.func51.trans (congrArg some (by kernel_rfl)),
  f29 := Try.func52.trans (congrArg some (by kernel_rfl)),
  f46 := ⟨Try.f66.name, by decide, Try.func66.trans (congrArg some (by kernel_rfl))⟩,
  f47 := Try.func62.trans (congrArg some (by kernel_rfl)),
  f48 := Try.func63.trans (congrArg some (by kernel_rfl)),
  f49 := ⟨Try.f67.name, by decide, Try.func67.trans (congrArg some (by kernel_rfl))⟩,
  f50 := ⟨Try.f68.name, by decide, Try.func68.trans (congrArg some (by kernel_rfl))⟩,
  f57 := ⟨Try.f70.name, by decide, Try.func70.trans (congrArg some (by kernel_rfl))⟩,
  t0 := Try.underlying0,
  a0 := Try.isAgg0,
  z0 := Try.sizeOf0,
  v0 := Try.zeroValue0,
  t3 := Try.underlying3,
  a3 := Try.isAgg3,
  z3 := Try.sizeOf3,
  v3 := Try.zeroValue3,
  t4 := Try.underlying4,
  a4 := Try.isAgg4,
  z4 := Try.sizeOf4,
  v4 := Try.zeroValue4,
  t5 := Try.underlying5,
  a5 := Try.isAgg5,
  z5 := Try.sizeOf5,
  v5 := Try.zeroValue5,
  t9 := Try.underlying9,
  a9 := Try.isAgg9,
  z9 := Try.sizeOf9,
  v9 := Try.zeroValue9,
  t22 := Try.underlying55,
  a22 := Try.isAgg55,
  z22 := Try.sizeOf55,
  v22 := Try.zeroValue55,
  t25 := Try.underlying72,
  a25 := Try.isAgg72,
  z25 := Try.sizeOf72,
  v25 := Try.zeroValue72,
  t39 := Try.underlying77,
  a39 := Try.isAgg77,
  z39 := Try.sizeOf77,
  v39 := Try.zeroValue77,
  t45 := Try.underlying82,
  a45 := Try.isAgg82,
  z45 := Try.sizeOf82,
  v45 := Try.zeroValue82,
  t46 := Try.underlying83,
  a46 := Try.isAgg83,
  z46 := Try.sizeOf83,
  v46 := Try.zeroValue83,
  t50 := Try.underlying87,
  a50 := Try.isAgg87,
  z50 := Try.sizeOf87,
  v50 := Try.zeroValue87,
  t53 := Try.underlying90,
  a53 := Try.isAgg90,
  z53 := Try.sizeOf90,
  v53 := Try.zeroValue90,
  t55 := Try.underlying92,
  a55 := Try.isAgg92,
  z55 := Try.sizeOf92,
  v55 := Try.zeroValue92,
  t66 := Try.underlying98,
  a66 := Try.isAgg98,
  z66 := Try.sizeOf98,
  v66 := Try.zeroValue98,
  t70 := Try.underlying102,
  a70 := Try.isAgg102,
  z70 := Try.sizeOf102,
  v70 := Try.zeroValue102,
  t76 := Try.underlying106,
  a76 := Try.isAgg106,
  z76 := Try.sizeOf106,
  v76 := Try.zeroValue106,
  t77 := Try.underlying62,
  a77 := Try.isAgg62,
  z77 := Try.sizeOf62,
  v77 := Try.zeroValue62 }

open Go.RowKit
theorem nan_any (x : Int) (w : World) : Calls Try.prog 39 #[.int .i64 x] w fun e w' => e = .returned (.bool false) ∧ w = w' := by
  go_enter Try.func39, Try.ntmps39
  go_wp2
  go_ret
  exact ⟨by simp, rfl⟩
set_option maxHeartbeats 400000 in
theorem compare_any (a b : Int) (w : World) : Calls Try.prog 28 #[.int .i64 a, .int .i64 b] w fun e w' => e = .returned (.int .i64 (cmpI a b)) ∧ w = w' := by
  go_enter Try.func28, Try.ntmps28
  go_wp2_with fail
  refine (nan_any a _).mono ?_
  rintro e w1 ⟨rfl, rfl⟩
  go_wp2_with fail
  refine (nan_any b _).mono ?_
  rintro e w1 ⟨rfl, rfl⟩
  rcases Int.lt_trichotomy a b with h | h | h
  · have hc : cmpI a b = -1 := if_pos h
    have HC := Lib.hid hc
    clear hc
    go_wp2
    go_ret
    exact ⟨by rw [HC.out]; rfl, rfl⟩
  · subst h
    have hc : cmpI a a = 0 := by unfold cmpI; simp
    have HC := Lib.hid hc
    clear hc
    have h1 : decide (a < a) = false := decide_eq_false (by omega)
    go_wp2
    go_ret
    exact ⟨by rw [HC.out]; rfl, rfl⟩
  · have hc : cmpI a b = 1 := by unfold cmpI; rw [if_neg (by omega), if_pos h]
    have HC := Lib.hid hc
    clear hc
    have h1 : decide (a < b) = false := decide_eq_false (by omega)
    go_wp2
    go_ret
    exact ⟨by rw [HC.out]; rfl, rfl⟩
set_option maxHeartbeats 800000 in
theorem or_any (g : Nat) (t : TypeId) (a b c d : Int) (w : World) (h : Blk w g t #[.int .i64 a, .int .i64 b, .int .i64 c, .int .i64 d]) : Calls Try.prog 27 #[.slice (some ⟨g, 0, none⟩) 4 4] w fun e w' => e = .returned (.int .i64 (orI [a, b, c, d])) ∧ w = w' := by
  have x0 : w.cell? ⟨g, 0, none⟩ = some (.int .i64 a) := (h.at_ 0).trans rfl
  have x1 : w.cell? ⟨g, 1, none⟩ = some (.int .i64 b) := (h.at_ 1).trans rfl
  have x2 : w.cell? ⟨g, 2, none⟩ = some (.int .i64 c) := (h.at_ 2).trans rfl
  have x3 : w.cell? ⟨g, 3, none⟩ = some (.int .i64 d) := (h.at_ 3).trans rfl
  have hl : g < w.heap.size := h.lt
  clear h
  go_enter Try.func27, Try.ntmps27
  go_wp2
  go_loop [8] (fun i => ∃ k : Nat, k ≤ 4 ∧ i = .int .i64 k ∧ Hid (orI [a, b, c, d] = orI ([a, b, c, d].drop k))) (fun i => 4 - (intOf i).toNat)
  case atStart => exact ⟨0, by omega, rfl, Lib.hid rfl⟩
  case round =>
    obtain ⟨k, hk, rfl, HE⟩ := hrel
    by_cases hlt : k < 4
    · obtain ⟨z, hz, HZ⟩ : ∃ z, w.cell? ⟨g, k, none⟩ = some (.int .i64 z) ∧ Hid ([a, b, c, d].drop k = z :: [a, b, c, d].drop (k + 1)) := by
        rcases (show k = 0 ∨ k = 1 ∨ k = 2 ∨ k = 3 by omega) with rfl | rfl | rfl | rfl
        · exact ⟨a, x0, Lib.hid rfl⟩
        · exact ⟨b, x1, Lib.hid rfl⟩
        · exact ⟨c, x2, Lib.hid rfl⟩
        · exact ⟨d, x3, Lib.hid rfl⟩
      have hlt' : (k : Int) < 4 := by omega
      clear x0 x1 x2 x3
      by_cases h0 : z = 0
      · subst h0
        have HN : Hid (orI [a, b, c, d] = orI ([a, b, c, d].drop (k + 1))) := Lib.hid (by rw [HE.out, HZ.out]; simp [orI])
        go_wp2
        go_round
        case rel => exact ⟨k + 1, by omega, by go_num, HN⟩
        case measure => simp [intOf]; omega
      · have hb : (z == 0) = false := by rw [beq_eq_false_iff_ne]; exact h0
        have HN : Hid (orI [a, b, c, d] = z) := Lib.hid (by rw [HE.out, HZ.out]; simp [orI, h0])
        clear h0
        go_wp2
        go_ret
        exact ⟨by rw [HN.out]; rfl, rfl⟩
    · obtain rfl : k = 4 := by omega
      clear x0 x1 x2 x3
      go_wp2
      go_ret
      exact ⟨by rw [HE.out]; rfl, rfl⟩
set_option maxRecDepth 100000 in
set_option maxHeartbeats 1600000 in
theorem rowcmp_any (x y : Rw) (W : World) : Calls Try.prog 26 #[.agg x.cells.toArray, .agg y.cells.toArray] W fun e w' => e = .returned (.int .i64 (cmpR x y)) ∧ ∃ q os', w' = grow (W.drewN q) os' := by
  obtain ⟨p1, p2, p3, p4, p5, p6⟩ := x
  obtain ⟨q1, q2, q3, q4, q5, q6⟩ := y
  have HC : Hid (cmpR ⟨p1, p2, p3, p4, p5, p6⟩ ⟨q1, q2, q3, q4, q5, q6⟩ = orI [cmpI q2 p2, cmpI q3 p3, cmpI q4 p4, cmpI p1 q1]) := Lib.hid rfl
  simp only [Rw.cells]
  go_enter Try.func26, Try.ntmps26
  go_wp2
  have hE : (W.alloc (.cells #[.int .i64 p1, .int .i64 p2, .int .i64 p3, .int .i64 p4, .int .i64 p5, .int .i64 p6] 33)).alloc (.cells #[.int .i64 q1, .int .i64 q2, .int .i64 q3, .int .i64 q4, .int .i64 q5, .int .i64 q6] 33) = grow W (#[.cells #[.int .i64 p1, .int .i64 p2, .int .i64 p3, .int .i64 p4, .int .i64 p5, .int .i64 p6] 33] ++ #[.cells #[.int .i64 q1, .int .i64 q2, .int .i64 q3, .int .i64 q4, .int .i64 q5, .int .i64 q6] 33]) := by rw [alloc_eq_grow, alloc_eq_grow, grow_grow]
  have HX : Hid (Blk ((W.alloc (.cells #[.int .i64 p1, .int .i64 p2, .int .i64 p3, .int .i64 p4, .int .i64 p5, .int .i64 p6] 33)).alloc (.cells #[.int .i64 q1, .int .i64 q2, .int .i64 q3, .int .i64 q4, .int .i64 q5, .int .i64 q6] 33)) W.heap.size 33 #[.int .i64 p1, .int .i64 p2, .int .i64 p3, .int .i64 p4, .int .i64 p5, .int .i64 p6]) := Lib.hid ((Blk.mk_ _ _ _ _ rfl).alloc _)
  have HY : Hid (Blk ((W.alloc (.cells #[.int .i64 p1, .int .i64 p2, .int .i64 p3, .int .i64 p4, .int .i64 p5, .int .i64 p6] 33)).alloc (.cells #[.int .i64 q1, .int .i64 q2, .int .i64 q3, .int .i64 q4, .int .i64 q5, .int .i64 q6] 33)) (W.heap.size + 1) 33 #[.int .i64 q1, .int .i64 q2, .int .i64 q3, .int .i64 q4, .int .i64 q5, .int .i64 q6]) := Lib.hid (Blk.mk_ _ _ _ _ (by simp))
  have HEQ := Lib.hid hE
  clear hE
  generalize (W.alloc (.cells #[.int .i64 p1, .int .i64 p2, .int .i64 p3, .int .i64 p4, .int .i64 p5, .int .i64 p6] 33)).alloc (.cells #[.int .i64 q1, .int .i64 q2, .int .i64 q3, .int .i64 q4, .int .i64 q5, .int .i64 q6] 33) = w2 at *
  have x0 : ∀ s : Later w2.heap.size w2, s.W.cell? ⟨W.heap.size, 0, none⟩ = some (.int .i64 p1) := fun s => ((HX.out.below s.h HX.out.lt).at_ 0).trans rfl
  have x1 : ∀ s : Later w2.heap.size w2, s.W.cell? ⟨W.heap.size, 1, none⟩ = some (.int .i64 p2) := fun s => ((HX.out.below s.h HX.out.lt).at_ 1).trans rfl
  have x2 : ∀ s : Later w2.heap.size w2, s.W.cell? ⟨W.heap.size, 2, none⟩ = some (.int .i64 p3) := fun s => ((HX.out.below s.h HX.out.lt).at_ 2).trans rfl
  have x3 : ∀ s : Later w2.heap.size w2, s.W.cell? ⟨W.heap.size, 3, none⟩ = some (.int .i64 p4) := fun s => ((HX.out.below s.h HX.out.lt).at_ 3).trans rfl
  have y0 : ∀ s : Later w2.heap.size w2, s.W.cell? ⟨W.heap.size + 1, 0, none⟩ = some (.int .i64 q1) := fun s => ((HY.out.below s.h HY.out.lt).at_ 0).trans rfl
  have y1 : ∀ s : Later w2.heap.size w2, s.W.cell? ⟨W.heap.size + 1, 1, none⟩ = some (.int .i64 q2) := fun s => ((HY.out.below s.h HY.out.lt).at_ 1).trans rfl
  have y2 : ∀ s : Later w2.heap.size w2, s.W.cell? ⟨W.heap.size + 1, 2, none⟩ = some (.int .i64 q3) := fun s => ((HY.out.below s.h HY.out.lt).at_ 2).trans rfl
  have y3 : ∀ s : Later w2.heap.size w2, s.W.cell? ⟨W.heap.size + 1, 3, none⟩ = some (.int .i64 q4) := fun s => ((HY.out.below s.h HY.out.lt).at_ 3).trans rfl
  refine wp_region_sched (fun w' => ∃ s : Later w2.heap.size w2, w' = s.W) [0,1,2,3,5,6,7,8,10,11,12,13,15,16,17,18] (.one 4 [] (.one 9 [] (.one 14 [] (.one 19 [] (.one 20 [] (.one 21 [22] .done)))))) (by kernel_rfl) (by kernel_rfl) (fun d _ _ _ _ h => by cases d <;> exact h) ⟨⟨_, (Below.refl _ _).drew⟩, rfl⟩ ?_
  simp only [opsAt, List.getElem?_toArray, List.getElem?_cons_succ, List.getElem?_cons_zero]
  repeat (go_big_quiet_step (fail))
  refine wpQuiet_nil ?_
  clear x0 x1 x2 x3 y0 y1 y2 y3
  have hB : Below w2.heap.size w2 w2.drew := (Below.refl _ _).drew
  (refine eff_lit rfl rfl (fun K hK => ?_))
  go_big_op
  refine (compare_any q2 p2 _).mono ?_
  rintro e w3 ⟨rfl, rfl⟩
  refine hK _ _ ⟨⟨_, hB⟩, rfl⟩ ?_
  clear hK K
  simp only [opsAt, List.getElem?_toArray, List.getElem?_cons_succ, List.getElem?_cons_zero]
  refine wpQuiet_nil ?_
  (refine eff_lit rfl rfl (fun K hK => ?_))
  go_big_op
  refine (compare_any q3 p3 _).mono ?_
  rintro e w3 ⟨rfl, rfl⟩
  refine hK _ _ ⟨⟨_, hB⟩, rfl⟩ ?_
  clear hK K
  simp only [opsAt, List.getElem?_toArray, List.getElem?_cons_succ, List.getElem?_cons_zero]
  refine wpQuiet_nil ?_
  (refine eff_lit rfl rfl (fun K hK => ?_))
  go_big_op
  refine (compare_any q4 p4 _).mono ?_
  rintro e w3 ⟨rfl, rfl⟩
  refine hK _ _ ⟨⟨_, hB⟩, rfl⟩ ?_
  clear hK K
  simp only [opsAt, List.getElem?_toArray, List.getElem?_cons_succ, List.getElem?_cons_zero]
  refine wpQuiet_nil ?_
  (refine eff_lit rfl rfl (fun K hK => ?_))
  go_big_op
  refine (compare_any p1 q1 _).mono ?_
  rintro e w3 ⟨rfl, rfl⟩
  refine hK _ _ ⟨⟨_, hB⟩, rfl⟩ ?_
  clear hK K
  simp only [opsAt, List.getElem?_toArray, List.getElem?_cons_succ, List.getElem?_cons_zero]
  refine wpQuiet_nil ?_
  generalize cmpI q2 p2 = c1 at *
  generalize cmpI q3 p3 = c2 at *
  generalize cmpI q4 p4 = c3 at *
  generalize cmpI p1 q1 = c4 at *
  (refine eff_lit rfl rfl (fun K hK => ?_))
  go_big_op
  have hB2 : Below w2.heap.size w2 (w2.alloc (.cells #[.int .i64 c1, .int .i64 c2, .int .i64 c3, .int .i64 c4] 3)).drew := ((Below.refl _ _).alloc (Nat.le_refl _) _).drew
  refine hK _ _ ⟨⟨_, hB2⟩, rfl⟩ ?_
  clear hK K
  simp only [opsAt, List.getElem?_toArray, List.getElem?_cons_succ, List.getElem?_cons_zero]
  refine wpQuiet_nil ?_
  (refine eff_lit rfl rfl (fun K hK => ?_))
  go_big_op
  refine (or_any w2.heap.size 3 c1 c2 c3 c4 _ (Blk.mk_ _ _ _ _ rfl).drew).mono ?_
  rintro e w3 ⟨rfl, rfl⟩
  refine hK _ _ ⟨⟨_, hB2⟩, rfl⟩ ?_
  clear hK K
  simp only [opsAt, List.getElem?_toArray, List.getElem?_cons_succ, List.getElem?_cons_zero]
  repeat (go_big_quiet_step (fail))
  refine wpQuiet_nil ?_
  refine effs_done ?_
  go_wp2
  go_ret
  refine ⟨by rw [HC.out]; rfl, 1, (#[.cells #[.int .i64 p1, .int .i64 p2, .int .i64 p3, .int .i64 p4, .int .i64 p5, .int .i64 p6] 33] ++ #[.cells #[.int .i64 q1, .int .i64 q2, .int .i64 q3, .int .i64 q4, .int .i64 q5, .int .i64 q6] 33]) ++ #[.cells #[.int .i64 c1, .int .i64 c2, .int .i64 c3, .int .i64 c4] 3], ?_⟩
  rw [HEQ.out, alloc_eq_grow, grow_grow]
  rfl

set_option maxRecDepth 100000 in
set_option maxHeartbeats 1600000 in
theorem duelcmp_any (x y : D) (W : World) : Calls Try.prog 33 #[.agg x.cells.toArray, .agg y.cells.toArray] W fun e w' => e = .returned (.int .i64 (cmpD x y)) ∧ ∃ q os', w' = grow (W.drewN q) os' := by
  obtain ⟨p1, p2⟩ := x
  obtain ⟨q1, q2⟩ := y
  have HC : Hid (cmpD ⟨p1, p2⟩ ⟨q1, q2⟩ = cmpI (min p1 p2) (min q1 q2)) := Lib.hid rfl
  simp only [D.cells]
  by_cases hp : p1 ≤ p2
  · have HP : Hid (min p1 p2 = p1) := Lib.hid (by omega)
    by_cases hq : q1 ≤ q2
    · have HQ : Hid (min q1 q2 = q1) := Lib.hid (by omega)
      go_enter Try.func33, Try.ntmps33
      go_wp2_with (go_at_call 28; refine (compare_any _ _ _).mono ?_; rintro e w3 ⟨rfl, rfl⟩)
      go_ret
      exact ⟨by rw [HC.out, HP.out, HQ.out]; rfl, 0, _, by rw [alloc_eq_grow, alloc_eq_grow, grow_grow]; rfl⟩
    · have HQ : Hid (min q1 q2 = q2) := Lib.hid (by omega)
      go_enter Try.func33, Try.ntmps33
      go_wp2_with (go_at_call 28; refine (compare_any _ _ _).mono ?_; rintro e w3 ⟨rfl, rfl⟩)
      go_ret
      exact ⟨by rw [HC.out, HP.out, HQ.out]; rfl, 0, _, by rw [alloc_eq_grow, alloc_eq_grow, grow_grow]; rfl⟩
  · have HP : Hid (min p1 p2 = p2) := Lib.hid (by omega)
    by_cases hq : q1 ≤ q2
    · have HQ : Hid (min q1 q2 = q1) := Lib.hid (by omega)
      go_enter Try.func33, Try.ntmps33
      go_wp2_with (go_at_call 28; refine (compare_any _ _ _).mono ?_; rintro e w3 ⟨rfl, rfl⟩)
      go_ret
      exact ⟨by rw [HC.out, HP.out, HQ.out]; rfl, 0, _, by rw [alloc_eq_grow, alloc_eq_grow, grow_grow]; rfl⟩
    · have HQ : Hid (min q1 q2 = q2) := Lib.hid (by omega)
      go_enter Try.func33, Try.ntmps33
      go_wp2_with (go_at_call 28; refine (compare_any _ _ _).mono ?_; rintro e w3 ⟨rfl, rfl⟩)
      go_ret
      exact ⟨by rw [HC.out, HP.out, HQ.out]; rfl, 0, _, by rw [alloc_eq_grow, alloc_eq_grow, grow_grow]; rfl⟩
theorem row_lays (blk off size : Nat) (w : World) : CmpLays Try.prog 26 #[] Rw.cells 6 cmpR blk off size w := fun _ _ _ _ x y => rowcmp_any x y _
theorem duel_lays (blk off size : Nat) (w : World) : CmpLays Try.prog 33 #[] D.cells 2 cmpD blk off size w := fun _ _ _ _ x y => duelcmp_any x y _
end Go.Proofs.Ytekbjlihpmjlfaa
