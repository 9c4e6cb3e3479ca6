/-
  The contracts of the small functions of frame and its reference that only compute.
-/
import Derived.Test.YtbcleifhadkecaaRows
import Derived.WalkKit
import Derived.WalkSpells
import Derived.WalkLawsBesides
import Derived.Handy
namespace Go.Proofs.Ytbcleifhadkecaa
open Go.RowKit

def seqB (k : Int) : Bool := k == 2 || k == 3 || k == 11
def numB (k : Int) : Bool := k == 4 || k == 12 || k == 13 || k == 14
def sentB (k : Int) : Bool := decide (1 ≤ k) && decide (k ≤ 4)
def leastI (k : Int) : Int := if k = 1 then 4 else 0
def mostI (k : Int) : Int := if k = 1 then 32 else if k = 2 then 64 else if k = 11 ∨ k = 12 then 65535 else 0
def isB (k : Int) : Bool := k == 1 || k == 2 || k == 3 || k == 4 || k == 11 || k == 12 || k == 13 || k == 14

set_option maxHeartbeats 400000 in
theorem seq_any (k : Int) (w : World) :
    Calls Try.prog 25 #[.int .i64 k] w fun e w' => e = .returned (.bool (seqB k)) ∧ w = w' := by
  go_enter Try.func25, Try.ntmps25
  go_wp2
  all_goals go_ret
  all_goals exact ⟨by simp_all [seqB], rfl⟩

set_option maxHeartbeats 400000 in
theorem num_any (k : Int) (w : World) :
    Calls Try.prog 26 #[.int .i64 k] w fun e w' => e = .returned (.bool (numB k)) ∧ w = w' := by
  go_enter Try.func26, Try.ntmps26
  go_wp2
  all_goals go_ret
  all_goals exact ⟨by simp_all [numB], rfl⟩

set_option maxHeartbeats 400000 in
theorem sent_any (k : Int) (w : World) :
    Calls Try.prog 23 #[.int .i64 k] w fun e w' => e = .returned (.bool (sentB k)) ∧ w = w' := by
  go_enter Try.func23, Try.ntmps23
  go_wp2
  all_goals go_ret
  all_goals exact ⟨by simp_all [sentB]; try omega, rfl⟩

set_option maxHeartbeats 400000 in
theorem data_any (k : Int) (w : World) :
    Calls Try.prog 24 #[.int .i64 k] w fun e w' => e = .returned (.tuple #[.int .i64 (leastI k), .int .i64 (mostI k)]) ∧ w = w' := by
  go_enter Try.func24, Try.ntmps24
  go_wp2
  all_goals go_ret2
  all_goals exact ⟨by simp_all [leastI, mostI], rfl⟩

set_option maxHeartbeats 400000 in
theorem of_any (k : Int) (w : World) :
    Calls Try.prog 27 #[.int .i64 k] w fun e w' => e = .returned (.tuple #[.agg #[.bool (seqB k), .bool (numB k), .bool (sentB k), .int .i64 (leastI k), .int .i64 (mostI k)], .bool (isB k)]) ∧ Below w.heap.size w w' := by
  go_enter Try.func27, Try.ntmps27
  go_wp2
  all_goals go_returns
  all_goals refine ⟨?_, by go_grown⟩
  all_goals simp_all [leastI, mostI, seqB, numB, sentB, isB]
  all_goals omega

end Go.Proofs.Ytbcleifhadkecaa
