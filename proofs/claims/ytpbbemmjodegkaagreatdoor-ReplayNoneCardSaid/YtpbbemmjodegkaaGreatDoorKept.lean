/-
  kept, can.
-/
import Derived.Test.YtpbbemmjodegkaaGreatDoorPlain
import Derived.Test.YtpbbemmjodegkaaGreatDoorBlk
import Derived.Deep.DeepCutAuto
set_option linter.unusedSimpArgs false
set_option linter.unusedVariables false
namespace Go.Proofs.YtpbbemmjodegkaaGreatDoor
open Go.RowKit

def numB (m : MoveV) : Bool := decide (0 ≤ m.id ∧ m.id ≤ 65535 ∧ 0 ≤ m.to ∧ m.to ≤ 65535)
def restB (m : MoveV) : Bool := decide (0 ≤ m.p ∧ m.p ≤ 1 ∧ 1 ≤ m.why ∧ m.why ≤ 5 ∧ 0 ≤ m.k ∧ m.k ≤ 8)
theorem kept_split (m : MoveV) : keptB m = (restB m && numB m) := by
  unfold keptB restB numB
  rw [Bool.eq_iff_iff]
  simp only [decide_eq_true_eq, Bool.and_eq_true]
  omega
def KeptCut (w : World) (m : MoveV) (v : Value) (W : World) : Prop := v = .bool (numB m) ∧ Blk W w.heap.size 48 #[.int .i64 m.p, .int .i64 m.why, .int .i64 m.k, .int .i64 m.id, .int .i64 m.to, .int .u64 m.at_] ∧ Blk W (w.heap.size + 1) 44 #[.int .i64 m.k, .int .i64 m.id, .int .i64 m.to] ∧ Below w.heap.size w W
theorem num_t {m : MoveV} (h1 : 0 ≤ m.id) (h2 : m.id ≤ 65535) (h3 : 0 ≤ m.to) (h4 : m.to ≤ 65535) : numB m = true := by simp [numB, *]
theorem num_f {m : MoveV} (h : ¬ (0 ≤ m.id ∧ m.id ≤ 65535 ∧ 0 ≤ m.to ∧ m.to ≤ 65535)) : numB m = false := by simpa [numB] using h

set_option maxHeartbeats 1600000 in
theorem kept_any (m : MoveV) (w : World) : Calls Tryz.prog 25 #[.agg #[.int .i64 m.p, .int .i64 m.why, .int .i64 m.k, .int .i64 m.id, .int .i64 m.to, .int .u64 m.at_]] w fun e w' => e = .returned (.bool (keptB m)) ∧ Below w.heap.size w w' := by
  have HK := Lib.hid (kept_split m)
  go_enter Tryz.func25, Tryz.ntmps25
  go_upto_region 2 with fail
  go_cut [4] (fun v W => KeptCut w m v W)
  case first =>
    go_wp2
    all_goals go_meet
    all_goals refine ⟨?_, ((Blk.mk_ _ 48 _ _ rfl).alloc _), (Blk.mk_ _ 44 _ _ (by simp)), by (focus (repeat' (first | (with_reducible exact Below.refl _ _) | (with_reducible assumption) | (with_reducible refine Below.alloc ?_ ?_ _) | (with_reducible refine below_drewN ?_ _) | (with_reducible refine Below.drew ?_) | (with_reducible refine Below.setCell ?_ ?_ _) | omega | (simp; done) | (simp; omega))))⟩
    all_goals first
      | (rw [num_t (by omega) (by omega) (by omega) (by omega)]; done)
      | (rw [num_f (by omega)]; done)
      | (congr 1; simp only [numB]; rw [eq_comm, Bool.eq_iff_iff]; simp; omega)
  case rest =>
    obtain ⟨rfl, h1, h2, hB⟩ := hcut
    have x0 := (h1.at_ 0).trans rfl
    have x1 := (h1.at_ 1).trans rfl
    have y0 := (h2.at_ 0).trans rfl
    clear h1 h2
    generalize hn : numB m = nb at *
    go_wp2
    all_goals go_ret
    all_goals refine ⟨?_, hB⟩
    all_goals rw [HK.out]
    all_goals show Ending.returned (Value.bool _) = Ending.returned (Value.bool _)
    all_goals congr 2
    all_goals first
      | (have hr : restB m = true := by (simp only [restB, decide_eq_true_eq]; omega)
         rw [hr, Bool.true_and]; done)
      | (have hr : restB m = false := by (simp only [restB, decide_eq_false_iff_not]; omega)
         rw [hr, Bool.false_and]; done)
end Go.Proofs.YtpbbemmjodegkaaGreatDoor
