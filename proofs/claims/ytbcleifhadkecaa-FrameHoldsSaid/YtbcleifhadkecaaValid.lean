/-
  Valid, in frame and in its reference.
-/
import Derived.Test.YtbcleifhadkecaaCheck
import Derived.Test.YtbcleifhadkecaaSmall
import Derived.Deep.QuietTactic
import Derived.BigQuiet
namespace Go.Proofs.Ytbcleifhadkecaa
open Go.RowKit

def validB (k s m : Int) (n : Nat) : Bool := isB k && (seqB k || s == 0) && (numB k || m == 0) && decide (leastI k ≤ n) && decide (n ≤ mostI k)

set_option maxHeartbeats 400000 in
theorem valid_any (k s m : Int) (A : Option Addr) (n cap : Nat) (w : World) :
    Calls Try.prog 21 #[.agg #[.int .i64 k, .int .u16 s, .int .u32 m, .slice A n cap]] w fun e w' => e = .returned (.bool (validB k s m n)) ∧ Below w.heap.size w w' := by
  go_enter Try.func21, Try.ntmps21
  go_wp2_with (go_at_call 27; refine (of_any _ _).mono ?_; rintro e w' ⟨rfl, hb⟩; obtain ⟨hc, hf⟩ := bcell hb; have hB := below_call (B := w.heap.size) (a := w) (by go_grown) hb (by simp); have hz : w.heap.size < w'.heap.size := (by have := hb.size; simp at this; omega))
  all_goals go_returns
  all_goals refine ⟨?_, by go_grown⟩
  all_goals simp_all [validB]
  all_goals omega

theorem isB_eq (k : Int) : isB k = (sentB k || (decide (11 ≤ k) && decide (k ≤ 14))) := by
  rw [Bool.eq_iff_iff]
  simp [isB, sentB]
  omega

set_option maxHeartbeats 400000 in
theorem rvalid_any (k s m : Int) (A : Option Addr) (n cap : Nat) (w : World) :
    Calls Try.prog 10 #[.agg #[.int .i64 k, .int .u16 s, .int .u32 m, .slice A n cap]] w fun e w' => e = .returned (.bool (validB k s m n)) ∧ Below w.heap.size w w' := by
  go_enter Try.func10, Try.ntmps10
  go_wp2_with (first | (go_at_call 23; refine (sent_any _ _).mono ?_; rintro e w' ⟨rfl, rfl⟩) | (go_at_call 24; refine (data_any _ _).mono ?_; rintro e w' ⟨rfl, rfl⟩) | (go_at_call 25; refine (seq_any _ _).mono ?_; rintro e w' ⟨rfl, rfl⟩) | (go_at_call 26; refine (num_any _ _).mono ?_; rintro e w' ⟨rfl, rfl⟩))
  all_goals go_returns
  all_goals refine ⟨?_, by go_grown⟩
  all_goals have hI := isB_eq k
  all_goals simp_all [validB]
  all_goals omega

end Go.Proofs.Ytbcleifhadkecaa
