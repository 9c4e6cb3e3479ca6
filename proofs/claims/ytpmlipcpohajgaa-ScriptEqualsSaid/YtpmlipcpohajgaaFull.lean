/-
  script.full.
-/
import Derived.Test.YtpmlipcpohajgaaEqual
set_option linter.unusedSimpArgs false
set_option linter.unusedVariables false
namespace Go.Proofs.Ytpmlipcpohajgaa
open Go.RowKit

def needI (xs : List Int) : Int := if nth xs 0 % 16 = 2 ∨ nth xs 0 % 16 = 3 then 1 else if nth xs 0 % 16 = 7 ∨ nth xs 0 % 16 = 10 then 3 else if nth xs 0 % 16 = 5 ∧ 1 < xs.length then 2 + nth xs 1 else 2
def fullB (xs : List Int) : Bool := (xs.length : Int) == needI xs

set_option maxHeartbeats 800000 in
theorem full_any (A : Option Addr) (n cap : Nat) (xs : List Int) (w : World) (hx : BReads w A n xs) (hn : 0 < n) (hm : n ≤ 1000000) :
    Calls Try.prog 33 #[.slice A n cap] w fun e w' => e = .returned (.bool (fullB xs)) ∧ w = w' := by
  have hl := hx.length
  obtain ⟨ad, rfl, hc, h0, h1⟩ := hx.at_ hn
  have hc0 : w.cell? ad = some (.int .u8 (nth xs 0)) := by simpa [Addr.add] using hc
  clear hc
  have HL : Hid (fullB xs = ((n : Int) == (if nth xs 0 % 16 = 2 ∨ nth xs 0 % 16 = 3 then 1 else if nth xs 0 % 16 = 7 ∨ nth xs 0 % 16 = 10 then 3 else if nth xs 0 % 16 = 5 ∧ 1 < n then 2 + nth xs 1 else 2))) := Lib.hid (by unfold fullB needI; rw [hl])
  by_cases h2 : 1 < n
  · obtain ⟨ad', e', hc1, g0, g1⟩ := hx.at_ h2
    injection e' with e'
    subst e'
    have hc1' : w.cell? ⟨ad.block, ad.off + 1, none⟩ = some (.int .u8 (nth xs 1)) := by simpa [Addr.add] using hc1
    clear hc1 hx hl
    have h2' : (1 : Int) < n := by omega
    go_enter Try.func33, Try.ntmps33
    go_wp2
    all_goals go_ret
    all_goals refine ⟨?_, rfl⟩
    all_goals rw [HL.out]
    all_goals simp_all
  · clear hx hl
    have h2' : ¬ (1 : Int) < n := by omega
    go_enter Try.func33, Try.ntmps33
    go_wp2
    all_goals go_ret
    all_goals refine ⟨?_, rfl⟩
    all_goals rw [HL.out]
    all_goals simp_all
    all_goals rw [if_neg (by omega)]
end Go.Proofs.Ytpmlipcpohajgaa
