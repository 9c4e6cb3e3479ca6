/-
  The card's closed facts, one theorem each.
-/
import Derived.Test.YtpbbemmjodegkaaGreatDoorCards
import Derived.ProofKit
import Derived.SevenTiedAt
set_option linter.unusedVariables false
namespace Go.Proofs.YtpbbemmjodegkaaGreatDoor
open Go

set_option maxRecDepth 100000 in
theorem card_wf : Rows.replayNoneRow.wfByText (OpenSpec.ofChange Rows.replayNoneSpec) = true := by kernel_rfl
set_option maxRecDepth 100000 in
theorem card_main : Tryz.prog.mainIs = some (true, "b95f1bfbea23dfa14ababf86b05e8a324f33d8b9ea7317c2aab919f0105be86f".toList) := by kernel_rfl
set_option maxRecDepth 100000 in
theorem card_named : Tryz.prog.funcNamed "zeitnot/zeitnotlaw47.ReplayNone" = some 4 := by kernel_rfl
set_option maxRecDepth 100000 in
theorem card_looks : false = Tryz.prog.looks [] := by kernel_rfl
set_option maxRecDepth 100000 in
theorem card_wants : ([48, 3, 23, 29].all fun u => !Tryz.prog.wantsStandIn u) = true := by kernel_rfl
set_option maxRecDepth 100000 in
theorem card_goes : false = Rows.replayNoneRow.goesBy Tryz.prog := by kernel_rfl
end Go.Proofs.YtpbbemmjodegkaaGreatDoor
