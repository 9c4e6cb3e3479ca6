/-
  The row's closed facts, one theorem each.
-/
import Derived.Test.YtpbbemmjodegkaaGreatDoorRows
import Derived.ProofKit
set_option linter.unusedVariables false
namespace Go.Proofs.YtpbbemmjodegkaaGreatDoor
open Go

theorem and_tt {a b : Bool} (ha : a = true) (hb : b = true) : (a && b) = true := by rw [ha, hb]; rfl
set_option maxRecDepth 100000 in
theorem fact_0 : (Rows.replayNoneRow.wf (OpenSpec.ofChange Rows.replayNoneSpec)) = true := by kernel_rfl
set_option maxRecDepth 100000 in
theorem fact_1 : (laidOutB Tryz.prog) = true := by kernel_rfl
set_option maxRecDepth 100000 in
theorem fact_2 : (mapsRowed Tryz.prog) = true := by kernel_rfl
set_option maxRecDepth 100000 in
theorem fact_3 : (Tryz.f4.params.all (Tryz.prog.readableRec ·)) = true := by kernel_rfl
set_option maxRecDepth 100000 in
theorem fact_4 : (namedTie Tryz.prog Rows.replayNoneRow.named Rows.replayNoneSpec.vars) = true := by kernel_rfl
set_option maxRecDepth 100000 in
theorem fact_5 : ((Rows.replayNoneRow.stops == [])) = true := by kernel_rfl
set_option maxRecDepth 100000 in
theorem fact_6 : ((Tryz.prog.stops == [])) = true := by kernel_rfl
set_option maxRecDepth 100000 in
theorem fact_7 : ((Rows.replayNoneRow.knobs == [])) = true := by kernel_rfl
set_option maxRecDepth 100000 in
theorem fact_8 : ((Tryz.prog.stopKnobs == [])) = true := by kernel_rfl
set_option maxRecDepth 100000 in
theorem fact_9 : ((Rows.replayNoneRow.inPlace == Tryz.prog.inPlace 4)) = true := by kernel_rfl
set_option maxRecDepth 100000 in
theorem fact_10 : ((Rows.replayNoneRow.unfollowed == Tryz.prog.unfollowed 4)) = true := by kernel_rfl
set_option maxRecDepth 100000 in
theorem fact_11 : ((Rows.replayNoneRow.recurses == Tryz.prog.recurses 4)) = true := by kernel_rfl
set_option maxRecDepth 100000 in
theorem fact_12 : ((Rows.replayNoneRow.named == Tryz.prog.varsNamed 4)) = true := by kernel_rfl
set_option maxRecDepth 100000 in
theorem fact_13 : ((Rows.replayNoneRow.maps == (Tryz.f4.params.toList ++ Rows.replayNoneSpec.plain.varTypes Tryz.prog).any (Tryz.prog.mapsRec ·))) = true := by kernel_rfl
set_option maxRecDepth 100000 in
theorem fact_14 : ((Rows.replayNoneRow.ifaces == (Tryz.f4.params.toList ++ Rows.replayNoneSpec.plain.varTypes Tryz.prog).any (Tryz.prog.ifacesRec ·))) = true := by kernel_rfl
set_option maxRecDepth 100000 in
theorem fact_15 : ((Rows.replayNoneRow.mapsOut == Tryz.prog.mapsAmong Tryz.f4.resultTypes.toList)) = true := by kernel_rfl
set_option maxRecDepth 100000 in
theorem fact_16 : ((Rows.replayNoneRow.loops == (Tryz.f4.params.toList ++ Rows.replayNoneSpec.plain.varTypes Tryz.prog).any (Tryz.prog.loopsFrom ·))) = true := by kernel_rfl
set_option maxRecDepth 100000 in
theorem fact_17 : ((Rows.replayNoneRow.wideKeys == (Tryz.f4.params.toList ++ Rows.replayNoneSpec.plain.varTypes Tryz.prog ++ Tryz.f4.resultTypes.toList).any (Tryz.prog.wideKeysFrom ·))) = true := by kernel_rfl
set_option maxRecDepth 100000 in
theorem fact_18 : (Rows.replayNoneSpec.vars.all (Tryz.prog.varReadable ·)) = true := by kernel_rfl
set_option maxRecDepth 100000 in
theorem fact_19 : (Tryz.f4.resultTypes.all (fun t => Tryz.prog.readableRec t && decide (t < Tryz.prog.types.size))) = true := by kernel_rfl
set_option maxRecDepth 100000 in
theorem fact_20 : ((Rows.replayNoneRow.ifacesOut == Tryz.f4.resultTypes.toList.any (Tryz.prog.ifacesRec ·))) = true := by kernel_rfl
set_option maxRecDepth 100000 in
theorem fact_21 : ((Rows.replayNoneRow.loopsOut == Tryz.f4.resultTypes.toList.any (Tryz.prog.loopsFrom ·))) = true := by kernel_rfl
set_option maxRecDepth 100000 in
theorem fact_22 : ((Rows.replayNoneRow.plainKeys == Tryz.prog.plainKeys)) = true := by kernel_rfl
set_option maxRecDepth 100000 in
theorem fact_23 : (Rows.replayNoneRow.shortTexts.isNone) = true := by kernel_rfl
set_option maxRecDepth 100000 in
theorem fact_24 : (Tryz.prog.stopsHeard) = true := by kernel_rfl
set_option maxRecDepth 100000 in
theorem fact_25 : (Tryz.prog.mayEnter) = true := by kernel_rfl
set_option maxRecDepth 100000 in
theorem fact_26 : ((Rows.replayNoneRow.lifted == Tryz.prog.liftsFinal)) = true := by kernel_rfl
set_option maxRecDepth 100000 in
theorem fact_27 : ((Tryz.prog.make == some Rows.replayNoneRow.make)) = true := by kernel_rfl
set_option maxRecDepth 100000 in
theorem fact_28 : ((Rows.replayNoneRow.kinds == (if Rows.replayNoneRow.domain.isEmpty then [] else Tryz.f4.params.toList.map fun t => match Tryz.prog.underlying t with | some (.int k) => some k | _ => none))) = true := by kernel_rfl
set_option maxRecDepth 100000 in
theorem fact_29 : ((Rows.replayNoneRow.pinned == Rows.replayNoneRow.pinnedBy)) = true := by kernel_rfl
set_option maxRecDepth 100000 in
theorem fact_30 : ((Rows.replayNoneRow.veiled == (Tryz.f4.params.toList ++ Rows.replayNoneSpec.plain.varTypes Tryz.prog ++ Tryz.f4.resultTypes.toList).any (Tryz.prog.veiledRec ·))) = true := by kernel_rfl
set_option maxRecDepth 100000 in
theorem fact_31 : (Rows.replayNoneRow.veiledFits Tryz.prog Tryz.f4.params.toList (Tryz.f4.params.toList ++ Rows.replayNoneSpec.plain.varTypes Tryz.prog ++ Tryz.f4.resultTypes.toList)) = true := by kernel_rfl
set_option maxRecDepth 100000 in
theorem row_facts : joinedFacts Tryz.prog 4 Tryz.f4 Rows.replayNoneSpec Rows.replayNoneRow = true := by
  unfold joinedFacts
  exact (and_tt (and_tt (and_tt (and_tt (and_tt (and_tt (and_tt (and_tt (and_tt (and_tt (and_tt (and_tt (and_tt (and_tt (and_tt (and_tt (and_tt (and_tt (and_tt (and_tt (and_tt (and_tt (and_tt (and_tt (and_tt (and_tt (and_tt (and_tt (and_tt (and_tt (and_tt fact_0 fact_1) fact_2) fact_3) fact_4) fact_5) fact_6) fact_7) fact_8) fact_9) fact_10) fact_11) fact_12) fact_13) fact_14) fact_15) fact_16) fact_17) fact_18) fact_19) fact_20) fact_21) fact_22) fact_23) fact_24) fact_25) fact_26) fact_27) fact_28) fact_29) fact_30) fact_31)
end Go.Proofs.YtpbbemmjodegkaaGreatDoor
