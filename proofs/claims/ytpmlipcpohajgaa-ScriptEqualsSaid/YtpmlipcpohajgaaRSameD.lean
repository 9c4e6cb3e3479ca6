/-
  The reference's Same, where a test fails.
-/
import Derived.Test.YtpmlipcpohajgaaRSameH
import Derived.Deep.QuietTactic
import Derived.BigQuiet
set_option linter.unusedSimpArgs false
set_option linter.unusedVariables false
namespace Go.Proofs.Ytpmlipcpohajgaa
open Go.RowKit

set_option maxRecDepth 100000 in
set_option maxHeartbeats 3200000 in
theorem same18_f9 (x y : DidC) (w : World) (hx : DidIs w x) (hy : DidIs w y) (e1 : (x.sk != y.sk) = false) (e2 : (x.sc != y.sc) = false) (e3 : (x.sn != y.sn) = false) (e4 : (x.sd == y.sd) = true) (e5 : (x.err != y.err) = false) (e6 : (x.n != y.n) = false) (e7 : (x.work != y.work) = false) (e8 : (x.at_ != y.at_) = false) (e9 : (x.sents.length != y.sents.length) = true) :
    Calls Try.prog 18 #[.agg #[.int .i64 x.sk, .int .i64 x.sc, .int .i64 x.sn, .slice x.dA x.sd.length x.dc, .int .i64 x.err, .int .i64 x.n, .slice x.sA x.sents.length x.sC, .slice x.mA x.moves.length x.mC, .int .i64 x.work, .int .u64 x.at_], .agg #[.int .i64 y.sk, .int .i64 y.sc, .int .i64 y.sn, .slice y.dA y.sd.length y.dc, .int .i64 y.err, .int .i64 y.n, .slice y.sA y.sents.length y.sC, .slice y.mA y.moves.length y.mC, .int .i64 y.work, .int .u64 y.at_]] w fun e w' => e = .returned (.bool (didEq x y)) ∧ Below w.heap.size w w' := by
  have HX : Hid (∀ W, Below w.heap.size w W → DidIs W x) := fun W h => hx.below h
  have HY : Hid (∀ W, Below w.heap.size w W → DidIs W y) := fun W h => hy.below h
  have HS := Lib.hid (str_inj hx.1.2 hy.1.2)
  have E1 := Lib.hid e1
  clear e1
  have E2 := Lib.hid e2
  clear e2
  have E3 := Lib.hid e3
  clear e3
  have E4 := Lib.hid e4
  clear e4
  have E5 := Lib.hid e5
  clear e5
  have E6 := Lib.hid e6
  clear e6
  have E7 := Lib.hid e7
  clear e7
  have E8 := Lib.hid e8
  clear e8
  have E9 := Lib.hid e9
  clear e9
  clear hx hy
  go_enter Try.func18, Try.ntmps18
  go_upto_region 1 with fail
  go_cut [5, 6] (fun s5 s6 W => TwoSteps w x y s5 s6 W)
  case first =>
    go_wp2
    go_region
    all_goals go_wp2
    all_goals go_meet
    all_goals first
      | exact ⟨_, _, rfl, rfl, (by exact ((Blk.mk_ _ 40 _ _ (by simp)).alloc _)), (by exact (Blk.mk_ _ 40 _ _ (by simp))), (by exact ((((Blk.mk_ _ 46 _ _ rfl).alloc _).alloc _).alloc _)), (by exact (((Blk.mk_ _ 46 _ _ (by simp)).alloc _).alloc _)), by (focus (repeat' (first | (with_reducible exact Below.refl _ _) | (with_reducible assumption) | (with_reducible refine Below.alloc ?_ ?_ _) | (with_reducible refine below_drewN ?_ _) | (with_reducible refine Below.drew ?_) | (with_reducible refine Below.setCell ?_ ?_ _) | omega | (simp; done) | (simp; omega))))⟩
      | exact ⟨_, _, rfl, rfl, (by exact (Blk.mk_ _ 40 _ _ (by simp))), (by exact ((Blk.mk_ _ 40 _ _ (by simp)).alloc _)), (by exact ((((Blk.mk_ _ 46 _ _ rfl).alloc _).alloc _).alloc _)), (by exact (((Blk.mk_ _ 46 _ _ (by simp)).alloc _).alloc _)), by (focus (repeat' (first | (with_reducible exact Below.refl _ _) | (with_reducible assumption) | (with_reducible refine Below.alloc ?_ ?_ _) | (with_reducible refine below_drewN ?_ _) | (with_reducible refine Below.drew ?_) | (with_reducible refine Below.setCell ?_ ?_ _) | omega | (simp; done) | (simp; omega))))⟩
  case rest =>
    obtain ⟨g5, g6, rfl, rfl, h5, h6, h2, h3, hB⟩ := hcut
    have x0 := (h2.at_ 0).trans rfl
    have y0 := (h3.at_ 0).trans rfl
    have x1 := (h2.at_ 1).trans rfl
    have y1 := (h3.at_ 1).trans rfl
    have x2 := (h2.at_ 2).trans rfl
    have y2 := (h3.at_ 2).trans rfl
    have x3 := (h2.at_ 3).trans rfl
    have y3 := (h3.at_ 3).trans rfl
    have x4 := (h2.at_ 4).trans rfl
    have y4 := (h3.at_ 4).trans rfl
    have x5 := (h2.at_ 5).trans rfl
    have y5 := (h3.at_ 5).trans rfl
    have x6 := (h2.at_ 6).trans rfl
    have y6 := (h3.at_ 6).trans rfl
    have x7 := (h2.at_ 7).trans rfl
    have y7 := (h3.at_ 7).trans rfl
    have x8 := (h2.at_ 8).trans rfl
    have y8 := (h3.at_ 8).trans rfl
    have x9 := (h2.at_ 9).trans rfl
    have y9 := (h3.at_ 9).trans rfl
    have s0 := (h5.at_ 0).trans rfl
    have t0 := (h6.at_ 0).trans rfl
    have s1 := (h5.at_ 1).trans rfl
    have t1 := (h6.at_ 1).trans rfl
    have s2 := (h5.at_ 2).trans rfl
    have t2 := (h6.at_ 2).trans rfl
    have s3 := (h5.at_ 3).trans rfl
    have t3 := (h6.at_ 3).trans rfl
    have hz := hB.size
    have hv1 := convert_bytes (P := Try.prog) (HX.out _ hB).1 x.dc 22 5 Try.underlying22 Try.underlying5 9 Try.underlying9
    have hv2 := convert_bytes (P := Try.prog) (HY.out _ hB).1 y.dc 22 5 Try.underlying22 Try.underlying5 9 Try.underlying9
    have hstr := HS.out
    clear h2 h3 h5 h6
    have e1 := E1.out
    have e2 := E2.out
    have e3 := E3.out
    have e4 := E4.out
    have e5 := E5.out
    have e6 := E6.out
    have e7 := E7.out
    have e8 := E8.out
    have e9 := E9.out
    have i9 : ((x.sents.length : Int) != (y.sents.length : Int)) = true := by have h := e9; simp only [bne_iff_ne, bne_eq_false_iff_eq, ne_eq] at h ⊢; omega
    go_wp2
    go_ret
    refine ⟨?_, hB⟩
    rw [did_f9 E9.out]
    rfl

set_option maxRecDepth 100000 in
set_option maxHeartbeats 3200000 in
theorem same18_f10 (x y : DidC) (w : World) (hx : DidIs w x) (hy : DidIs w y) (e1 : (x.sk != y.sk) = false) (e2 : (x.sc != y.sc) = false) (e3 : (x.sn != y.sn) = false) (e4 : (x.sd == y.sd) = true) (e5 : (x.err != y.err) = false) (e6 : (x.n != y.n) = false) (e7 : (x.work != y.work) = false) (e8 : (x.at_ != y.at_) = false) (e9 : (x.sents.length != y.sents.length) = false) (e10 : (x.moves.length != y.moves.length) = true) :
    Calls Try.prog 18 #[.agg #[.int .i64 x.sk, .int .i64 x.sc, .int .i64 x.sn, .slice x.dA x.sd.length x.dc, .int .i64 x.err, .int .i64 x.n, .slice x.sA x.sents.length x.sC, .slice x.mA x.moves.length x.mC, .int .i64 x.work, .int .u64 x.at_], .agg #[.int .i64 y.sk, .int .i64 y.sc, .int .i64 y.sn, .slice y.dA y.sd.length y.dc, .int .i64 y.err, .int .i64 y.n, .slice y.sA y.sents.length y.sC, .slice y.mA y.moves.length y.mC, .int .i64 y.work, .int .u64 y.at_]] w fun e w' => e = .returned (.bool (didEq x y)) ∧ Below w.heap.size w w' := by
  have HX : Hid (∀ W, Below w.heap.size w W → DidIs W x) := fun W h => hx.below h
  have HY : Hid (∀ W, Below w.heap.size w W → DidIs W y) := fun W h => hy.below h
  have HS := Lib.hid (str_inj hx.1.2 hy.1.2)
  have E1 := Lib.hid e1
  clear e1
  have E2 := Lib.hid e2
  clear e2
  have E3 := Lib.hid e3
  clear e3
  have E4 := Lib.hid e4
  clear e4
  have E5 := Lib.hid e5
  clear e5
  have E6 := Lib.hid e6
  clear e6
  have E7 := Lib.hid e7
  clear e7
  have E8 := Lib.hid e8
  clear e8
  have E9 := Lib.hid e9
  clear e9
  have E10 := Lib.hid e10
  clear e10
  clear hx hy
  go_enter Try.func18, Try.ntmps18
  go_upto_region 1 with fail
  go_cut [5, 6] (fun s5 s6 W => TwoSteps w x y s5 s6 W)
  case first =>
    go_wp2
    go_region
    all_goals go_wp2
    all_goals go_meet
    all_goals first
      | exact ⟨_, _, rfl, rfl, (by exact ((Blk.mk_ _ 40 _ _ (by simp)).alloc _)), (by exact (Blk.mk_ _ 40 _ _ (by simp))), (by exact ((((Blk.mk_ _ 46 _ _ rfl).alloc _).alloc _).alloc _)), (by exact (((Blk.mk_ _ 46 _ _ (by simp)).alloc _).alloc _)), by (focus (repeat' (first | (with_reducible exact Below.refl _ _) | (with_reducible assumption) | (with_reducible refine Below.alloc ?_ ?_ _) | (with_reducible refine below_drewN ?_ _) | (with_reducible refine Below.drew ?_) | (with_reducible refine Below.setCell ?_ ?_ _) | omega | (simp; done) | (simp; omega))))⟩
      | exact ⟨_, _, rfl, rfl, (by exact (Blk.mk_ _ 40 _ _ (by simp))), (by exact ((Blk.mk_ _ 40 _ _ (by simp)).alloc _)), (by exact ((((Blk.mk_ _ 46 _ _ rfl).alloc _).alloc _).alloc _)), (by exact (((Blk.mk_ _ 46 _ _ (by simp)).alloc _).alloc _)), by (focus (repeat' (first | (with_reducible exact Below.refl _ _) | (with_reducible assumption) | (with_reducible refine Below.alloc ?_ ?_ _) | (with_reducible refine below_drewN ?_ _) | (with_reducible refine Below.drew ?_) | (with_reducible refine Below.setCell ?_ ?_ _) | omega | (simp; done) | (simp; omega))))⟩
  case rest =>
    obtain ⟨g5, g6, rfl, rfl, h5, h6, h2, h3, hB⟩ := hcut
    have x0 := (h2.at_ 0).trans rfl
    have y0 := (h3.at_ 0).trans rfl
    have x1 := (h2.at_ 1).trans rfl
    have y1 := (h3.at_ 1).trans rfl
    have x2 := (h2.at_ 2).trans rfl
    have y2 := (h3.at_ 2).trans rfl
    have x3 := (h2.at_ 3).trans rfl
    have y3 := (h3.at_ 3).trans rfl
    have x4 := (h2.at_ 4).trans rfl
    have y4 := (h3.at_ 4).trans rfl
    have x5 := (h2.at_ 5).trans rfl
    have y5 := (h3.at_ 5).trans rfl
    have x6 := (h2.at_ 6).trans rfl
    have y6 := (h3.at_ 6).trans rfl
    have x7 := (h2.at_ 7).trans rfl
    have y7 := (h3.at_ 7).trans rfl
    have x8 := (h2.at_ 8).trans rfl
    have y8 := (h3.at_ 8).trans rfl
    have x9 := (h2.at_ 9).trans rfl
    have y9 := (h3.at_ 9).trans rfl
    have s0 := (h5.at_ 0).trans rfl
    have t0 := (h6.at_ 0).trans rfl
    have s1 := (h5.at_ 1).trans rfl
    have t1 := (h6.at_ 1).trans rfl
    have s2 := (h5.at_ 2).trans rfl
    have t2 := (h6.at_ 2).trans rfl
    have s3 := (h5.at_ 3).trans rfl
    have t3 := (h6.at_ 3).trans rfl
    have hz := hB.size
    have hv1 := convert_bytes (P := Try.prog) (HX.out _ hB).1 x.dc 22 5 Try.underlying22 Try.underlying5 9 Try.underlying9
    have hv2 := convert_bytes (P := Try.prog) (HY.out _ hB).1 y.dc 22 5 Try.underlying22 Try.underlying5 9 Try.underlying9
    have hstr := HS.out
    clear h2 h3 h5 h6
    have e1 := E1.out
    have e2 := E2.out
    have e3 := E3.out
    have e4 := E4.out
    have e5 := E5.out
    have e6 := E6.out
    have e7 := E7.out
    have e8 := E8.out
    have e9 := E9.out
    have i9 : ((x.sents.length : Int) != (y.sents.length : Int)) = false := by have h := e9; simp only [bne_iff_ne, bne_eq_false_iff_eq, ne_eq] at h ⊢; omega
    have e10 := E10.out
    have i10 : ((x.moves.length : Int) != (y.moves.length : Int)) = true := by have h := e10; simp only [bne_iff_ne, bne_eq_false_iff_eq, ne_eq] at h ⊢; omega
    go_wp2
    go_ret
    refine ⟨?_, hB⟩
    rw [did_f10 E10.out]
    rfl

end Go.Proofs.Ytpmlipcpohajgaa
