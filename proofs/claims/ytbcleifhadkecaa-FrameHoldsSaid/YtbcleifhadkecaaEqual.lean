/-
  Equal, in frame and in its reference; bytes.Equal.
-/
import Derived.Test.YtbcleifhadkecaaValid
namespace Go.Proofs.Ytbcleifhadkecaa
open Go.RowKit

set_option maxHeartbeats 400000 in
theorem bequal_any (A B : Option Addr) (n c n' c' : Nat) (xs ys : List Int) (w : World) (hx : BReads w A n xs) (hy : BReads w B n' ys) :
    Calls Try.prog 32 #[.slice A n c, .slice B n' c'] w fun e w' => e = .returned (.bool (xs == ys)) ∧ w = w' := by
  have h1 := convert_bytes (P := Try.prog) hx c 25 5 Try.underlying25 Try.underlying5 9 Try.underlying9
  have h2 := convert_bytes (P := Try.prog) hy c' 25 5 Try.underlying25 Try.underlying5 9 Try.underlying9
  have h3 := Lib.hid (str_inj hx.2 hy.2)
  go_enter Try.func32, Try.ntmps32
  go_wp2
  go_ret
  exact ⟨by rw [← h3.out]; rfl, rfl⟩

def eqB (k s m : Int) (xs : List Int) (k' s' m' : Int) (ys : List Int) : Bool := k == k' && s == s' && m == m' && xs == ys

set_option maxHeartbeats 400000 in
theorem equal_any (k s m k' s' m' : Int) (A B : Option Addr) (n c n' c' : Nat) (xs ys : List Int) (w : World) (hx : BReads w A n xs) (hy : BReads w B n' ys) :
    Calls Try.prog 22 #[.agg #[.int .i64 k, .int .u16 s, .int .u32 m, .slice A n c], .agg #[.int .i64 k', .int .u16 s', .int .u32 m', .slice B n' c']] w fun e w' => e = .returned (.bool (eqB k s m xs k' s' m' ys)) ∧ Below w.heap.size w w' := by
  go_enter Try.func22, Try.ntmps22
  go_wp2_with (go_at_call 32; refine (bequal_any _ _ _ _ _ _ _ _ _ ((hx.alloc _).alloc _) ((hy.alloc _).alloc _)).mono ?_; rintro e w' ⟨rfl, rfl⟩)
  all_goals go_ret
  all_goals refine ⟨?_, by go_grown⟩
  all_goals simp_all [eqB]

set_option maxHeartbeats 400000 in
theorem requal_any (k s m k' s' m' : Int) (A B : Option Addr) (n c n' c' : Nat) (xs ys : List Int) (w : World) (hx : BReads w A n xs) (hy : BReads w B n' ys) :
    Calls Try.prog 18 #[.agg #[.int .i64 k, .int .u16 s, .int .u32 m, .slice A n c], .agg #[.int .i64 k', .int .u16 s', .int .u32 m', .slice B n' c']] w fun e w' => e = .returned (.bool (eqB k s m xs k' s' m' ys)) ∧ Below w.heap.size w w' := by
  have h1 := fun o1 o2 => convert_bytes (P := Try.prog) ((hx.alloc o1).alloc o2) c 25 5 Try.underlying25 Try.underlying5 9 Try.underlying9
  have h2 := fun o1 o2 => convert_bytes (P := Try.prog) ((hy.alloc o1).alloc o2) c' 25 5 Try.underlying25 Try.underlying5 9 Try.underlying9
  have h3 := Lib.hid (str_inj hx.2 hy.2)
  clear hx hy
  go_enter Try.func18, Try.ntmps18
  go_wp2
  all_goals go_ret
  all_goals refine ⟨?_, by go_grown⟩
  all_goals have h4 := h3.out
  all_goals simp_all [eqB]

end Go.Proofs.Ytbcleifhadkecaa
