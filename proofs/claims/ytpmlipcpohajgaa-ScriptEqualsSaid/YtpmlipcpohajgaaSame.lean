/-
  script.Same.
-/
import Derived.Test.YtpmlipcpohajgaaSents
import Derived.Test.YtpmlipcpohajgaaBlk
import Derived.RegionTactic
import Derived.ChangeAlike
import Derived.BigRegion
import Derived.Deep.DeepCutAuto
set_option linter.unusedSimpArgs false
set_option linter.unusedVariables false
namespace Go.Proofs.Ytpmlipcpohajgaa
open Go.RowKit

/-- What the first statement of both Sames leaves: the two steps, each in a block of its own. -/
def TwoSteps (w : World) (x y : DidC) (s5 s6 : Value) (W : World) : Prop :=
  ∃ g5 g6 : Nat, s5 = .pointer (some ⟨g5, 0, none⟩) ∧ s6 = .pointer (some ⟨g6, 0, none⟩) ∧ Blk W g5 40 #[.int .i64 x.sk, .int .i64 x.sc, .int .i64 x.sn, .slice x.dA x.sd.length x.dc] ∧ Blk W g6 40 #[.int .i64 y.sk, .int .i64 y.sc, .int .i64 y.sn, .slice y.dA y.sd.length y.dc] ∧ Blk W w.heap.size 46 #[.int .i64 x.sk, .int .i64 x.sc, .int .i64 x.sn, .slice x.dA x.sd.length x.dc, .int .i64 x.err, .int .i64 x.n, .slice x.sA x.sents.length x.sC, .slice x.mA x.moves.length x.mC, .int .i64 x.work, .int .u64 x.at_] ∧ Blk W (w.heap.size + 1) 46 #[.int .i64 y.sk, .int .i64 y.sc, .int .i64 y.sn, .slice y.dA y.sd.length y.dc, .int .i64 y.err, .int .i64 y.n, .slice y.sA y.sents.length y.sC, .slice y.mA y.moves.length y.mC, .int .i64 y.work, .int .u64 y.at_] ∧ Below w.heap.size w W

set_option maxRecDepth 100000 in
set_option maxHeartbeats 3200000 in
theorem same17_any (x y : DidC) (w : World) (hx : DidIs w x) (hy : DidIs w y) :
    Calls Try.prog 17 #[.agg #[.int .i64 x.sk, .int .i64 x.sc, .int .i64 x.sn, .slice x.dA x.sd.length x.dc, .int .i64 x.err, .int .i64 x.n, .slice x.sA x.sents.length x.sC, .slice x.mA x.moves.length x.mC, .int .i64 x.work, .int .u64 x.at_], .agg #[.int .i64 y.sk, .int .i64 y.sc, .int .i64 y.sn, .slice y.dA y.sd.length y.dc, .int .i64 y.err, .int .i64 y.n, .slice y.sA y.sents.length y.sC, .slice y.mA y.moves.length y.mC, .int .i64 y.work, .int .u64 y.at_]] w fun e w' => e = .returned (.bool (didEq x y)) ∧ Below w.heap.size w w' := by
  have HX : Hid (∀ W, Below w.heap.size w W → DidIs W x) := fun W h => hx.below h
  have HY : Hid (∀ W, Below w.heap.size w W → DidIs W y) := fun W h => hy.below h
  clear hx hy
  go_enter Try.func17, Try.ntmps17
  go_upto_region 1 with fail
  go_cut [5, 6] (fun s5 s6 W => TwoSteps w x y s5 s6 W)
  case first =>
    go_wp2
    go_region
    all_goals go_wp2
    all_goals go_meet
    all_goals first
      | exact ⟨_, _, rfl, rfl, (by exact ((Blk.mk_ _ 40 _ _ (by simp)).alloc _)), (by exact (Blk.mk_ _ 40 _ _ (by simp))), (by exact ((((Blk.mk_ _ 46 _ _ rfl).alloc _).alloc _).alloc _)), (by exact (((Blk.mk_ _ 46 _ _ (by simp)).alloc _).alloc _)), by (focus (repeat' (first | (with_reducible exact Below.refl _ _) | (with_reducible assumption) | (with_reducible refine Below.alloc ?_ ?_ _) | (with_reducible refine below_drewN ?_ _) | (with_reducible refine Below.drew ?_) | (with_reducible refine Below.setCell ?_ ?_ _) | omega | (simp; done) | (simp; omega))))⟩
      | exact ⟨_, _, rfl, rfl, (by exact (Blk.mk_ _ 40 _ _ (by simp))), (by exact ((Blk.mk_ _ 40 _ _ (by simp)).alloc _)), (by exact ((((Blk.mk_ _ 46 _ _ rfl).alloc _).alloc _).alloc _)), (by exact (((Blk.mk_ _ 46 _ _ (by simp)).alloc _).alloc _)), by (focus (repeat' (first | (with_reducible exact Below.refl _ _) | (with_reducible assumption) | (with_reducible refine Below.alloc ?_ ?_ _) | (with_reducible refine below_drewN ?_ _) | (with_reducible refine Below.drew ?_) | (with_reducible refine Below.setCell ?_ ?_ _) | omega | (simp; done) | (simp; omega))))⟩
  case rest =>
    obtain ⟨g5, g6, rfl, rfl, h5, h6, h2, h3, hB⟩ := hcut
    have x0 := (h2.at_ 0).trans rfl
    have y0 := (h3.at_ 0).trans rfl
    have x1 := (h2.at_ 1).trans rfl
    have y1 := (h3.at_ 1).trans rfl
    have x2 := (h2.at_ 2).trans rfl
    have y2 := (h3.at_ 2).trans rfl
    have x3 := (h2.at_ 3).trans rfl
    have y3 := (h3.at_ 3).trans rfl
    have x4 := (h2.at_ 4).trans rfl
    have y4 := (h3.at_ 4).trans rfl
    have x5 := (h2.at_ 5).trans rfl
    have y5 := (h3.at_ 5).trans rfl
    have x6 := (h2.at_ 6).trans rfl
    have y6 := (h3.at_ 6).trans rfl
    have x7 := (h2.at_ 7).trans rfl
    have y7 := (h3.at_ 7).trans rfl
    have x8 := (h2.at_ 8).trans rfl
    have y8 := (h3.at_ 8).trans rfl
    have x9 := (h2.at_ 9).trans rfl
    have y9 := (h3.at_ 9).trans rfl
    have s0 := (h5.at_ 0).trans rfl
    have t0 := (h6.at_ 0).trans rfl
    have s1 := (h5.at_ 1).trans rfl
    have t1 := (h6.at_ 1).trans rfl
    have s2 := (h5.at_ 2).trans rfl
    have t2 := (h6.at_ 2).trans rfl
    have s3 := (h5.at_ 3).trans rfl
    have t3 := (h6.at_ 3).trans rfl
    have H2 := Lib.hid h2
    have H3 := Lib.hid h3
    have hz := hB.size
    have hlt3 := Lib.hid h3.lt
    clear h2 h3 h5 h6
    go_wp2_with (first
      | (go_at_call 25; refine (bequal_any _ _ _ _ _ _ _ _ _ (HX.out _ hB).1 (HY.out _ hB).1).mono ?_; rintro e w1 ⟨rfl, rfl⟩)
      | (go_at_call 26; refine (equalfunc_any _ _ _ _ _ _ _ _ _ (HX.out _ hB).2.1 (HY.out _ hB).2.1 (HX.out _ hB).2.2.2.1 (HY.out _ hB).2.2.2.1).mono ?_; rintro e w5 ⟨rfl, hb5⟩; have hB5 := below_call hB hb5 hz; have xx7 := ((H2.out.call hb5).at_ 7).trans rfl; have yy7 := ((H3.out.call hb5).at_ 7).trans rfl)
      | (go_at_call 28; refine (mequal_any _ _ _ _ _ _ _ _ _ (HX.out _ hB5).2.2.1 (HY.out _ hB5).2.2.1 (HX.out _ hB5).2.2.2.2.1 (HY.out _ hB5).2.2.2.2.1).mono ?_; rintro e w6 ⟨rfl, hb6⟩; have hB6 := below_call hB5 hb6 hB5.size)
      | fail)
    all_goals go_ret
    all_goals refine ⟨?_, (by assumption)⟩
    all_goals simp_all [didEq, stepEq]

end Go.Proofs.Ytpmlipcpohajgaa
