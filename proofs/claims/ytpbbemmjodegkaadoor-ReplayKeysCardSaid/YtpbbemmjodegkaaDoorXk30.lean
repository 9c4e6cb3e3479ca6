/-
  Texts: Kcard, Kfacts.
-/
import Derived.Test.YtpbbemmjodegkaaDoorCards
import Derived.ProofKit
import Derived.SevenTiedAt
import Derived.Test.YtpbbemmjodegkaaDoorRows
set_option linter.unusedVariables false
namespace Go.Proofs.YtpbbemmjodegkaaDoor
open Go

set_option maxRecDepth 100000 in
theorem card_wf : Rows.replayKeysRow.wfByText (OpenSpec.ofChange Rows.replayKeysSpec) = true := by kernel_rfl
set_option maxRecDepth 100000 in
theorem card_main : Tryd.prog.mainIs = some (true, "9c8190de9ed720c5ebdb367ae3fdbd18668df757e84c67a99ff0843ad38178a0".toList) := by kernel_rfl
set_option maxRecDepth 100000 in
theorem card_named : Tryd.prog.funcNamed "zeitnot/zeitnotlaw47.ReplayKeys" = some 3 := by kernel_rfl
set_option maxRecDepth 100000 in
theorem card_looks : false = Tryd.prog.looks [] := by kernel_rfl
set_option maxRecDepth 100000 in
theorem card_wants : ([23, 29].all fun u => !Tryd.prog.wantsStandIn u) = true := by kernel_rfl
set_option maxRecDepth 100000 in
theorem card_goes : false = Rows.replayKeysRow.goesBy Tryd.prog := by kernel_rfl
end Go.Proofs.YtpbbemmjodegkaaDoor

set_option linter.unusedVariables false
namespace Go.Proofs.YtpbbemmjodegkaaDoor
open Go

theorem and_tt {a b : Bool} (ha : a = true) (hb : b = true) : (a && b) = true := by rw [ha, hb]; rfl
set_option maxRecDepth 100000 in
theorem fact_0 : (Rows.replayKeysRow.wf (OpenSpec.ofChange Rows.replayKeysSpec)) = true := by kernel_rfl
set_option maxRecDepth 100000 in
theorem fact_1 : (laidOutB Tryd.prog) = true := by kernel_rfl
set_option maxRecDepth 100000 in
theorem fact_2 : (mapsRowed Tryd.prog) = true := by kernel_rfl
set_option maxRecDepth 100000 in
theorem fact_3 : (Tryd.f3.params.all (Tryd.prog.readableRec ·)) = true := by kernel_rfl
set_option maxRecDepth 100000 in
theorem fact_4 : (namedTie Tryd.prog Rows.replayKeysRow.named Rows.replayKeysSpec.vars) = true := by kernel_rfl
set_option maxRecDepth 100000 in
theorem fact_5 : ((Rows.replayKeysRow.stops == [])) = true := by kernel_rfl
set_option maxRecDepth 100000 in
theorem fact_6 : ((Tryd.prog.stops == [])) = true := by kernel_rfl
set_option maxRecDepth 100000 in
theorem fact_7 : ((Rows.replayKeysRow.knobs == [])) = true := by kernel_rfl
set_option maxRecDepth 100000 in
theorem fact_8 : ((Tryd.prog.stopKnobs == [])) = true := by kernel_rfl
set_option maxRecDepth 100000 in
theorem fact_9 : ((Rows.replayKeysRow.inPlace == Tryd.prog.inPlace 3)) = true := by kernel_rfl
set_option maxRecDepth 100000 in
theorem fact_10 : ((Rows.replayKeysRow.unfollowed == Tryd.prog.unfollowed 3)) = true := by kernel_rfl
set_option maxRecDepth 100000 in
theorem fact_11 : ((Rows.replayKeysRow.recurses == Tryd.prog.recurses 3)) = true := by kernel_rfl
set_option maxRecDepth 100000 in
theorem fact_12 : ((Rows.replayKeysRow.named == Tryd.prog.varsNamed 3)) = true := by kernel_rfl
set_option maxRecDepth 100000 in
theorem fact_13 : ((Rows.replayKeysRow.maps == (Tryd.f3.params.toList ++ Rows.replayKeysSpec.plain.varTypes Tryd.prog).any (Tryd.prog.mapsRec ·))) = true := by kernel_rfl
set_option maxRecDepth 100000 in
theorem fact_14 : ((Rows.replayKeysRow.ifaces == (Tryd.f3.params.toList ++ Rows.replayKeysSpec.plain.varTypes Tryd.prog).any (Tryd.prog.ifacesRec ·))) = true := by kernel_rfl
set_option maxRecDepth 100000 in
theorem fact_15 : ((Rows.replayKeysRow.mapsOut == Tryd.prog.mapsAmong Tryd.f3.resultTypes.toList)) = true := by kernel_rfl
set_option maxRecDepth 100000 in
theorem fact_16 : ((Rows.replayKeysRow.loops == (Tryd.f3.params.toList ++ Rows.replayKeysSpec.plain.varTypes Tryd.prog).any (Tryd.prog.loopsFrom ·))) = true := by kernel_rfl
set_option maxRecDepth 100000 in
theorem fact_17 : ((Rows.replayKeysRow.wideKeys == (Tryd.f3.params.toList ++ Rows.replayKeysSpec.plain.varTypes Tryd.prog ++ Tryd.f3.resultTypes.toList).any (Tryd.prog.wideKeysFrom ·))) = true := by kernel_rfl
set_option maxRecDepth 100000 in
theorem fact_18 : (Rows.replayKeysSpec.vars.all (Tryd.prog.varReadable ·)) = true := by kernel_rfl
set_option maxRecDepth 100000 in
theorem fact_19 : (Tryd.f3.resultTypes.all (fun t => Tryd.prog.readableRec t && decide (t < Tryd.prog.types.size))) = true := by kernel_rfl
set_option maxRecDepth 100000 in
theorem fact_20 : ((Rows.replayKeysRow.ifacesOut == Tryd.f3.resultTypes.toList.any (Tryd.prog.ifacesRec ·))) = true := by kernel_rfl
set_option maxRecDepth 100000 in
theorem fact_21 : ((Rows.replayKeysRow.loopsOut == Tryd.f3.resultTypes.toList.any (Tryd.prog.loopsFrom ·))) = true := by kernel_rfl
set_option maxRecDepth 100000 in
theorem fact_22 : ((Rows.replayKeysRow.plainKeys == Tryd.prog.plainKeys)) = true := by kernel_rfl
set_option maxRecDepth 100000 in
theorem fact_23 : (Rows.replayKeysRow.shortTexts.isNone) = true := by kernel_rfl
set_option maxRecDepth 100000 in
theorem fact_24 : (Tryd.prog.stopsHeard) = true := by kernel_rfl
set_option maxRecDepth 100000 in
theorem fact_25 : (Tryd.prog.mayEnter) = true := by kernel_rfl
set_option maxRecDepth 100000 in
theorem fact_26 : ((Rows.replayKeysRow.lifted == Tryd.prog.liftsFinal)) = true := by kernel_rfl
set_option maxRecDepth 100000 in
theorem fact_27 : ((Tryd.prog.make == some Rows.replayKeysRow.make)) = true := by kernel_rfl
set_option maxRecDepth 100000 in
theorem fact_28 : ((Rows.replayKeysRow.kinds == (if Rows.replayKeysRow.domain.isEmpty then [] else Tryd.f3.params.toList.map fun t => match Tryd.prog.underlying t with | some (.int k) => some k | _ => none))) = true := by kernel_rfl
set_option maxRecDepth 100000 in
theorem fact_29 : ((Rows.replayKeysRow.pinned == Rows.replayKeysRow.pinnedBy)) = true := by kernel_rfl
set_option maxRecDepth 100000 in
theorem fact_30 : ((Rows.replayKeysRow.veiled == (Tryd.f3.params.toList ++ Rows.replayKeysSpec.plain.varTypes Tryd.prog ++ Tryd.f3.resultTypes.toList).any (Tryd.prog.veiledRec ·))) = true := by kernel_rfl
set_option maxRecDepth 100000 in
theorem fact_31 : (Rows.replayKeysRow.veiledFits Tryd.prog Tryd.f3.params.toList (Tryd.f3.params.toList ++ Rows.replayKeysSpec.plain.varTypes Tryd.prog ++ Tryd.f3.resultTypes.toList)) = true := by kernel_rfl
set_option maxRecDepth 100000 in
theorem row_facts : joinedFacts Tryd.prog 3 Tryd.f3 Rows.replayKeysSpec Rows.replayKeysRow = true := by
  unfold joinedFacts
  exact (and_tt (and_tt (and_tt (and_tt (and_tt (and_tt (and_tt (and_tt (and_tt (and_tt (and_tt (and_tt (and_tt (and_tt (and_tt (and_tt (and_tt (and_tt (and_tt (and_tt (and_tt (and_tt (and_tt (and_tt (and_tt (and_tt (and_tt (and_tt (and_tt (and_tt (and_tt fact_0 fact_1) fact_2) fact_3) fact_4) fact_5) fact_6) fact_7) fact_8) fact_9) fact_10) fact_11) fact_12) fact_13) fact_14) fact_15) fact_16) fact_17) fact_18) fact_19) fact_20) fact_21) fact_22) fact_23) fact_24) fact_25) fact_26) fact_27) fact_28) fact_29) fact_30) fact_31)
end Go.Proofs.YtpbbemmjodegkaaDoor
