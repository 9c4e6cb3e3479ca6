/-
  The reference's Same, where a test fails.
-/
import Derived.Test.YtpmlipcpohajgaaRSameH
import Derived.Deep.QuietTactic
import Derived.BigQuiet
set_option linter.unusedSimpArgs false
set_option linter.unusedVariables false
namespace Go.Proofs.Ytpmlipcpohajgaa
open Go.RowKit

set_option maxRecDepth 100000 in
set_option maxHeartbeats 3200000 in
theorem same18_f1 (x y : DidC) (w : World) (hx : DidIs w x) (hy : DidIs w y) (e1 : (x.sk != y.sk) = true) :
    Calls Try.prog 18 #[.agg #[.int .i64 x.sk, .int .i64 x.sc, .int .i64 x.sn, .slice x.dA x.sd.length x.dc, .int .i64 x.err, .int .i64 x.n, .slice x.sA x.sents.length x.sC, .slice x.mA x.moves.length x.mC, .int .i64 x.work, .int .u64 x.at_], .agg #[.int .i64 y.sk, .int .i64 y.sc, .int .i64 y.sn, .slice y.dA y.sd.length y.dc, .int .i64 y.err, .int .i64 y.n, .slice y.sA y.sents.length y.sC, .slice y.mA y.moves.length y.mC, .int .i64 y.work, .int .u64 y.at_]] w fun e w' => e = .returned (.bool (didEq x y)) ∧ Below w.heap.size w w' := by
  have HX : Hid (∀ W, Below w.heap.size w W → DidIs W x) := fun W h => hx.below h
  have HY : Hid (∀ W, Below w.heap.size w W → DidIs W y) := fun W h => hy.below h
  have HS := Lib.hid (str_inj hx.1.2 hy.1.2)
  have E1 := Lib.hid e1
  clear e1
  clear hx hy
  go_enter Try.func18, Try.ntmps18
  go_upto_region 1 with fail
  go_cut [5, 6] (fun s5 s6 W => TwoSteps w x y s5 s6 W)
  case first =>
    go_wp2
    go_region
    all_goals go_wp2
    all_goals go_meet
    all_goals first
      | exact ⟨_, _, rfl, rfl, (by exact ((Blk.mk_ _ 40 _ _ (by simp)).alloc _)), (by exact (Blk.mk_ _ 40 _ _ (by simp))), (by exact ((((Blk.mk_ _ 46 _ _ rfl).alloc _).alloc _).alloc _)), (by exact (((Blk.mk_ _ 46 _ _ (by simp)).alloc _).alloc _)), by (focus (repeat' (first | (with_reducible exact Below.refl _ _) | (with_reducible assumption) | (with_reducible refine Below.alloc ?_ ?_ _) | (with_reducible refine below_drewN ?_ _) | (with_reducible refine Below.drew ?_) | (with_reducible refine Below.setCell ?_ ?_ _) | omega | (simp; done) | (simp; omega))))⟩
      | exact ⟨_, _, rfl, rfl, (by exact (Blk.mk_ _ 40 _ _ (by simp))), (by exact ((Blk.mk_ _ 40 _ _ (by simp)).alloc _)), (by exact ((((Blk.mk_ _ 46 _ _ rfl).alloc _).alloc _).alloc _)), (by exact (((Blk.mk_ _ 46 _ _ (by simp)).alloc _).alloc _)), by (focus (repeat' (first | (with_reducible exact Below.refl _ _) | (with_reducible assumption) | (with_reducible refine Below.alloc ?_ ?_ _) | (with_reducible refine below_drewN ?_ _) | (with_reducible refine Below.drew ?_) | (with_reducible refine Below.setCell ?_ ?_ _) | omega | (simp; done) | (simp; omega))))⟩
  case rest =>
    obtain ⟨g5, g6, rfl, rfl, h5, h6, h2, h3, hB⟩ := hcut
    have x0 := (h2.at_ 0).trans rfl
    have y0 := (h3.at_ 0).trans rfl
    have x1 := (h2.at_ 1).trans rfl
    have y1 := (h3.at_ 1).trans rfl
    have x2 := (h2.at_ 2).trans rfl
    have y2 := (h3.at_ 2).trans rfl
    have x3 := (h2.at_ 3).trans rfl
    have y3 := (h3.at_ 3).trans rfl
    have x4 := (h2.at_ 4).trans rfl
    have y4 := (h3.at_ 4).trans rfl
    have x5 := (h2.at_ 5).trans rfl
    have y5 := (h3.at_ 5).trans rfl
    have x6 := (h2.at_ 6).trans rfl
    have y6 := (h3.at_ 6).trans rfl
    have x7 := (h2.at_ 7).trans rfl
    have y7 := (h3.at_ 7).trans rfl
    have x8 := (h2.at_ 8).trans rfl
    have y8 := (h3.at_ 8).trans rfl
    have x9 := (h2.at_ 9).trans rfl
    have y9 := (h3.at_ 9).trans rfl
    have s0 := (h5.at_ 0).trans rfl
    have t0 := (h6.at_ 0).trans rfl
    have s1 := (h5.at_ 1).trans rfl
    have t1 := (h6.at_ 1).trans rfl
    have s2 := (h5.at_ 2).trans rfl
    have t2 := (h6.at_ 2).trans rfl
    have s3 := (h5.at_ 3).trans rfl
    have t3 := (h6.at_ 3).trans rfl
    have hz := hB.size
    clear h2 h3 h5 h6
    have e1 := E1.out
    go_wp2
    go_ret
    refine ⟨?_, hB⟩
    rw [did_f1 E1.out]
    rfl

set_option maxRecDepth 100000 in
set_option maxHeartbeats 3200000 in
theorem same18_f2 (x y : DidC) (w : World) (hx : DidIs w x) (hy : DidIs w y) (e1 : (x.sk != y.sk) = false) (e2 : (x.sc != y.sc) = true) :
    Calls Try.prog 18 #[.agg #[.int .i64 x.sk, .int .i64 x.sc, .int .i64 x.sn, .slice x.dA x.sd.length x.dc, .int .i64 x.err, .int .i64 x.n, .slice x.sA x.sents.length x.sC, .slice x.mA x.moves.length x.mC, .int .i64 x.work, .int .u64 x.at_], .agg #[.int .i64 y.sk, .int .i64 y.sc, .int .i64 y.sn, .slice y.dA y.sd.length y.dc, .int .i64 y.err, .int .i64 y.n, .slice y.sA y.sents.length y.sC, .slice y.mA y.moves.length y.mC, .int .i64 y.work, .int .u64 y.at_]] w fun e w' => e = .returned (.bool (didEq x y)) ∧ Below w.heap.size w w' := by
  have HX : Hid (∀ W, Below w.heap.size w W → DidIs W x) := fun W h => hx.below h
  have HY : Hid (∀ W, Below w.heap.size w W → DidIs W y) := fun W h => hy.below h
  have HS := Lib.hid (str_inj hx.1.2 hy.1.2)
  have E1 := Lib.hid e1
  clear e1
  have E2 := Lib.hid e2
  clear e2
  clear hx hy
  go_enter Try.func18, Try.ntmps18
  go_upto_region 1 with fail
  go_cut [5, 6] (fun s5 s6 W => TwoSteps w x y s5 s6 W)
  case first =>
    go_wp2
    go_region
    all_goals go_wp2
    all_goals go_meet
    all_goals first
      | exact ⟨_, _, rfl, rfl, (by exact ((Blk.mk_ _ 40 _ _ (by simp)).alloc _)), (by exact (Blk.mk_ _ 40 _ _ (by simp))), (by exact ((((Blk.mk_ _ 46 _ _ rfl).alloc _).alloc _).alloc _)), (by exact (((Blk.mk_ _ 46 _ _ (by simp)).alloc _).alloc _)), by (focus (repeat' (first | (with_reducible exact Below.refl _ _) | (with_reducible assumption) | (with_reducible refine Below.alloc ?_ ?_ _) | (with_reducible refine below_drewN ?_ _) | (with_reducible refine Below.drew ?_) | (with_reducible refine Below.setCell ?_ ?_ _) | omega | (simp; done) | (simp; omega))))⟩
      | exact ⟨_, _, rfl, rfl, (by exact (Blk.mk_ _ 40 _ _ (by simp))), (by exact ((Blk.mk_ _ 40 _ _ (by simp)).alloc _)), (by exact ((((Blk.mk_ _ 46 _ _ rfl).alloc _).alloc _).alloc _)), (by exact (((Blk.mk_ _ 46 _ _ (by simp)).alloc _).alloc _)), by (focus (repeat' (first | (with_reducible exact Below.refl _ _) | (with_reducible assumption) | (with_reducible refine Below.alloc ?_ ?_ _) | (with_reducible refine below_drewN ?_ _) | (with_reducible refine Below.drew ?_) | (with_reducible refine Below.setCell ?_ ?_ _) | omega | (simp; done) | (simp; omega))))⟩
  case rest =>
    obtain ⟨g5, g6, rfl, rfl, h5, h6, h2, h3, hB⟩ := hcut
    have x0 := (h2.at_ 0).trans rfl
    have y0 := (h3.at_ 0).trans rfl
    have x1 := (h2.at_ 1).trans rfl
    have y1 := (h3.at_ 1).trans rfl
    have x2 := (h2.at_ 2).trans rfl
    have y2 := (h3.at_ 2).trans rfl
    have x3 := (h2.at_ 3).trans rfl
    have y3 := (h3.at_ 3).trans rfl
    have x4 := (h2.at_ 4).trans rfl
    have y4 := (h3.at_ 4).trans rfl
    have x5 := (h2.at_ 5).trans rfl
    have y5 := (h3.at_ 5).trans rfl
    have x6 := (h2.at_ 6).trans rfl
    have y6 := (h3.at_ 6).trans rfl
    have x7 := (h2.at_ 7).trans rfl
    have y7 := (h3.at_ 7).trans rfl
    have x8 := (h2.at_ 8).trans rfl
    have y8 := (h3.at_ 8).trans rfl
    have x9 := (h2.at_ 9).trans rfl
    have y9 := (h3.at_ 9).trans rfl
    have s0 := (h5.at_ 0).trans rfl
    have t0 := (h6.at_ 0).trans rfl
    have s1 := (h5.at_ 1).trans rfl
    have t1 := (h6.at_ 1).trans rfl
    have s2 := (h5.at_ 2).trans rfl
    have t2 := (h6.at_ 2).trans rfl
    have s3 := (h5.at_ 3).trans rfl
    have t3 := (h6.at_ 3).trans rfl
    have hz := hB.size
    clear h2 h3 h5 h6
    have e1 := E1.out
    have e2 := E2.out
    go_wp2
    go_ret
    refine ⟨?_, hB⟩
    rw [did_f2 E2.out]
    rfl

set_option maxRecDepth 100000 in
set_option maxHeartbeats 3200000 in
theorem same18_f3 (x y : DidC) (w : World) (hx : DidIs w x) (hy : DidIs w y) (e1 : (x.sk != y.sk) = false) (e2 : (x.sc != y.sc) = false) (e3 : (x.sn != y.sn) = true) :
    Calls Try.prog 18 #[.agg #[.int .i64 x.sk, .int .i64 x.sc, .int .i64 x.sn, .slice x.dA x.sd.length x.dc, .int .i64 x.err, .int .i64 x.n, .slice x.sA x.sents.length x.sC, .slice x.mA x.moves.length x.mC, .int .i64 x.work, .int .u64 x.at_], .agg #[.int .i64 y.sk, .int .i64 y.sc, .int .i64 y.sn, .slice y.dA y.sd.length y.dc, .int .i64 y.err, .int .i64 y.n, .slice y.sA y.sents.length y.sC, .slice y.mA y.moves.length y.mC, .int .i64 y.work, .int .u64 y.at_]] w fun e w' => e = .returned (.bool (didEq x y)) ∧ Below w.heap.size w w' := by
  have HX : Hid (∀ W, Below w.heap.size w W → DidIs W x) := fun W h => hx.below h
  have HY : Hid (∀ W, Below w.heap.size w W → DidIs W y) := fun W h => hy.below h
  have HS := Lib.hid (str_inj hx.1.2 hy.1.2)
  have E1 := Lib.hid e1
  clear e1
  have E2 := Lib.hid e2
  clear e2
  have E3 := Lib.hid e3
  clear e3
  clear hx hy
  go_enter Try.func18, Try.ntmps18
  go_upto_region 1 with fail
  go_cut [5, 6] (fun s5 s6 W => TwoSteps w x y s5 s6 W)
  case first =>
    go_wp2
    go_region
    all_goals go_wp2
    all_goals go_meet
    all_goals first
      | exact ⟨_, _, rfl, rfl, (by exact ((Blk.mk_ _ 40 _ _ (by simp)).alloc _)), (by exact (Blk.mk_ _ 40 _ _ (by simp))), (by exact ((((Blk.mk_ _ 46 _ _ rfl).alloc _).alloc _).alloc _)), (by exact (((Blk.mk_ _ 46 _ _ (by simp)).alloc _).alloc _)), by (focus (repeat' (first | (with_reducible exact Below.refl _ _) | (with_reducible assumption) | (with_reducible refine Below.alloc ?_ ?_ _) | (with_reducible refine below_drewN ?_ _) | (with_reducible refine Below.drew ?_) | (with_reducible refine Below.setCell ?_ ?_ _) | omega | (simp; done) | (simp; omega))))⟩
      | exact ⟨_, _, rfl, rfl, (by exact (Blk.mk_ _ 40 _ _ (by simp))), (by exact ((Blk.mk_ _ 40 _ _ (by simp)).alloc _)), (by exact ((((Blk.mk_ _ 46 _ _ rfl).alloc _).alloc _).alloc _)), (by exact (((Blk.mk_ _ 46 _ _ (by simp)).alloc _).alloc _)), by (focus (repeat' (first | (with_reducible exact Below.refl _ _) | (with_reducible assumption) | (with_reducible refine Below.alloc ?_ ?_ _) | (with_reducible refine below_drewN ?_ _) | (with_reducible refine Below.drew ?_) | (with_reducible refine Below.setCell ?_ ?_ _) | omega | (simp; done) | (simp; omega))))⟩
  case rest =>
    obtain ⟨g5, g6, rfl, rfl, h5, h6, h2, h3, hB⟩ := hcut
    have x0 := (h2.at_ 0).trans rfl
    have y0 := (h3.at_ 0).trans rfl
    have x1 := (h2.at_ 1).trans rfl
    have y1 := (h3.at_ 1).trans rfl
    have x2 := (h2.at_ 2).trans rfl
    have y2 := (h3.at_ 2).trans rfl
    have x3 := (h2.at_ 3).trans rfl
    have y3 := (h3.at_ 3).trans rfl
    have x4 := (h2.at_ 4).trans rfl
    have y4 := (h3.at_ 4).trans rfl
    have x5 := (h2.at_ 5).trans rfl
    have y5 := (h3.at_ 5).trans rfl
    have x6 := (h2.at_ 6).trans rfl
    have y6 := (h3.at_ 6).trans rfl
    have x7 := (h2.at_ 7).trans rfl
    have y7 := (h3.at_ 7).trans rfl
    have x8 := (h2.at_ 8).trans rfl
    have y8 := (h3.at_ 8).trans rfl
    have x9 := (h2.at_ 9).trans rfl
    have y9 := (h3.at_ 9).trans rfl
    have s0 := (h5.at_ 0).trans rfl
    have t0 := (h6.at_ 0).trans rfl
    have s1 := (h5.at_ 1).trans rfl
    have t1 := (h6.at_ 1).trans rfl
    have s2 := (h5.at_ 2).trans rfl
    have t2 := (h6.at_ 2).trans rfl
    have s3 := (h5.at_ 3).trans rfl
    have t3 := (h6.at_ 3).trans rfl
    have hz := hB.size
    clear h2 h3 h5 h6
    have e1 := E1.out
    have e2 := E2.out
    have e3 := E3.out
    go_wp2
    go_ret
    refine ⟨?_, hB⟩
    rw [did_f3 E3.out]
    rfl

end Go.Proofs.Ytpmlipcpohajgaa
