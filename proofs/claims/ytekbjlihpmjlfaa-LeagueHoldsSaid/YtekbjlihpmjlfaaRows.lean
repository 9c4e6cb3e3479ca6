/-
  No cell of these rows narrows 'for every input' (looked for: loops, veiled, ifaces, maps, wideKeys, modest, calm, conditions, laid).
  DERIVED. THE GIVEN ROWS OF THIS SEAT. 5 by the template 'for every input the law returns true; each argument reads behind the call as it read before'; 0 by the template 'total and deterministic' (their statements: YtekbjlihpmjlfaaTotals.lean).
  GIVEN WITH THE SEED: the statements are not yours to turn. If you find one false, say at which input.
  Laid BY PROGRAM, IN A SANDBOX (cutbox-rows.mjs): the forced cells as the released guide's own fill.sh prints them over the translation 1bba784ab57731e1… (all of the seat's roots in one cut). By AI agents, Wed Nov 11 2026. No macro, syntax, notation, axiom, sorry.
-/
import Derived.Test.YtekbjlihpmjlfaaChecked
import GoSem.Claim
import GoSem.ClaimJoined
import GoSem.ClaimMapViews
import Derived.JoinedTies
import Derived.KernelRfl
namespace Go.Proofs.Ytekbjlihpmjlfaa
/- THE CELL 'sum', in the pinned program and in every row, IS THE sha256 OF THE DUMP (.gsa) THAT YtekbjlihpmjlfaaProg.lean LOADS. Nothing in Lean hashes anything: it is a label: what it is worth is what the hold of that sum in a sandbox is worth. -/
noncomputable def Try.pinned : Pinned := { name := "ytekbjlihpmjlfaa", sum := "1bba784ab57731e1ad529475fb92d3eb5bbc2f5669bba0c02d0a022db84632b8", checked := Try.checked }
namespace Rows
def none {H : Type} : Left H := { results := [], args := [] }

/-- 'zeitnotlaw43.LeagueTables': WHATEVER THE INPUT: true; the input reads as it did. -/
def leagueTablesSpec : ChangeSpec := { name := "leagueTables", fn := fun _ => fun
  | [d1, d2] => { results := [.lit (.bool true)], args := [d1, d2] }
  | _ => none }
def leagueTablesRow : OpenClaim := { program := "ytekbjlihpmjlfaa", sum := "1bba784ab57731e1ad529475fb92d3eb5bbc2f5669bba0c02d0a022db84632b8", func := "zeitnot/zeitnotlaw43.LeagueTables", spec := "leagueTables", unfollowed := true, recurses := true, apart := false }
def LeagueTablesSaid : Prop := leagueTablesRow.holds Try.pinned (OpenSpec.ofChange leagueTablesSpec)

/-- ITS FALSE NEIGHBOUR: 'it returns false'. Refute it at one input. -/
def leagueTablesWrong : ChangeSpec := { name := "leagueTables", fn := fun _ => fun
  | [d1, d2] => { results := [.lit (.bool false)], args := [d1, d2] }
  | _ => none }
def LeagueTablesWrongFalsely : Prop := leagueTablesRow.holds Try.pinned (OpenSpec.ofChange leagueTablesWrong)

/-- 'zeitnotlaw43.LeagueCrosses': WHATEVER THE INPUT: true; the input reads as it did. -/
def leagueCrossesSpec : ChangeSpec := { name := "leagueCrosses", fn := fun _ => fun
  | [d1, d2, d3, d4] => { results := [.lit (.bool true)], args := [d1, d2, d3, d4] }
  | _ => none }
def leagueCrossesRow : OpenClaim := { program := "ytekbjlihpmjlfaa", sum := "1bba784ab57731e1ad529475fb92d3eb5bbc2f5669bba0c02d0a022db84632b8", func := "zeitnot/zeitnotlaw43.LeagueCrosses", spec := "leagueCrosses", unfollowed := true, recurses := true, apart := false }
def LeagueCrossesSaid : Prop := leagueCrossesRow.holds Try.pinned (OpenSpec.ofChange leagueCrossesSpec)

/-- ITS FALSE NEIGHBOUR: 'it returns false'. Refute it at one input. -/
def leagueCrossesWrong : ChangeSpec := { name := "leagueCrosses", fn := fun _ => fun
  | [d1, d2, d3, d4] => { results := [.lit (.bool false)], args := [d1, d2, d3, d4] }
  | _ => none }
def LeagueCrossesWrongFalsely : Prop := leagueCrossesRow.holds Try.pinned (OpenSpec.ofChange leagueCrossesWrong)

/-- 'zeitnotlaw43.LeagueSchedules': WHATEVER THE INPUT: true; the input reads as it did. -/
def leagueSchedulesSpec : ChangeSpec := { name := "leagueSchedules", fn := fun _ => fun
  | [d] => { results := [.lit (.bool true)], args := [d] }
  | _ => none }
def leagueSchedulesRow : OpenClaim := { program := "ytekbjlihpmjlfaa", sum := "1bba784ab57731e1ad529475fb92d3eb5bbc2f5669bba0c02d0a022db84632b8", func := "zeitnot/zeitnotlaw43.LeagueSchedules", spec := "leagueSchedules", unfollowed := true, recurses := true, apart := false }
def LeagueSchedulesSaid : Prop := leagueSchedulesRow.holds Try.pinned (OpenSpec.ofChange leagueSchedulesSpec)

/-- ITS FALSE NEIGHBOUR: 'it returns false'. Refute it at one input. -/
def leagueSchedulesWrong : ChangeSpec := { name := "leagueSchedules", fn := fun _ => fun
  | [d] => { results := [.lit (.bool false)], args := [d] }
  | _ => none }
def LeagueSchedulesWrongFalsely : Prop := leagueSchedulesRow.holds Try.pinned (OpenSpec.ofChange leagueSchedulesWrong)

/-- 'zeitnotlaw43.LeagueFulls': WHATEVER THE INPUT: true; the input reads as it did. -/
def leagueFullsSpec : ChangeSpec := { name := "leagueFulls", fn := fun _ => fun
  | [d] => { results := [.lit (.bool true)], args := [d] }
  | _ => none }
def leagueFullsRow : OpenClaim := { program := "ytekbjlihpmjlfaa", sum := "1bba784ab57731e1ad529475fb92d3eb5bbc2f5669bba0c02d0a022db84632b8", func := "zeitnot/zeitnotlaw43.LeagueFulls", spec := "leagueFulls", unfollowed := true, recurses := true, apart := false }
def LeagueFullsSaid : Prop := leagueFullsRow.holds Try.pinned (OpenSpec.ofChange leagueFullsSpec)

/-- ITS FALSE NEIGHBOUR: 'it returns false'. Refute it at one input. -/
def leagueFullsWrong : ChangeSpec := { name := "leagueFulls", fn := fun _ => fun
  | [d] => { results := [.lit (.bool false)], args := [d] }
  | _ => none }
def LeagueFullsWrongFalsely : Prop := leagueFullsRow.holds Try.pinned (OpenSpec.ofChange leagueFullsWrong)

/-- 'zeitnotlaw43.LeagueHolds': WHATEVER THE INPUT: true; the input reads as it did. -/
def leagueHoldsSpec : ChangeSpec := { name := "leagueHolds", fn := fun _ => fun
  | [d1, d2] => { results := [.lit (.bool true)], args := [d1, d2] }
  | _ => none }
def leagueHoldsRow : OpenClaim := { program := "ytekbjlihpmjlfaa", sum := "1bba784ab57731e1ad529475fb92d3eb5bbc2f5669bba0c02d0a022db84632b8", func := "zeitnot/zeitnotlaw43.LeagueHolds", spec := "leagueHolds", unfollowed := true, recurses := true, apart := false }
def LeagueHoldsSaid : Prop := leagueHoldsRow.holds Try.pinned (OpenSpec.ofChange leagueHoldsSpec)

/-- ITS FALSE NEIGHBOUR: 'it returns false'. Refute it at one input. -/
def leagueHoldsWrong : ChangeSpec := { name := "leagueHolds", fn := fun _ => fun
  | [d1, d2] => { results := [.lit (.bool false)], args := [d1, d2] }
  | _ => none }
def LeagueHoldsWrongFalsely : Prop := leagueHoldsRow.holds Try.pinned (OpenSpec.ofChange leagueHoldsWrong)

/- THE SECOND FORM. 'bulk': how many values and letters a reading holds, each counted each time it is reached (what is shared counts as often as it is met; a slice's spare places count too). A statement '..UptoSaid' is the law's where the arguments, and the package variables that the reading takes, are together of bulk at most 1048576: NARROWER than '..Said'. Prove '..Said' where nothing that the law and all that it calls make is longer than what came in: it says more and counts as full. Else prove '..UptoSaid'. A law counts once. -/
mutual
def uptoBulk {H : Type} : DataW H → Nat
  | .lit (.string bytes) => bytes.length + 1
  | .lit _ => 1
  | .nil => 1
  | .ptr d => uptoBulk d + 1
  | .slice elems spare => uptoBulkAll elems + uptoBulkAll spare + 1
  | .agg parts => uptoBulkAll parts + 1
  | .iface _ d => uptoBulk d + 1
  | .map entries => uptoBulkEntries entries + 1
  | .held _ => 1
def uptoBulkAll {H : Type} : List (DataW H) → Nat
  | [] => 0
  | d :: r => uptoBulk d + uptoBulkAll r
def uptoBulkEntries {H : Type} : List (Lit × DataW H) → Nat
  | [] => 0
  | x :: r => uptoBulkEntry x + uptoBulkEntries r
def uptoBulkEntry {H : Type} : Lit × DataW H → Nat
  | (.string bytes, d) => bytes.length + uptoBulk d + 1
  | (_, d) => uptoBulk d + 1
 end
def uptoSmall : (H : Type) → List (DataW H) → Bool := fun _ ds => decide (uptoBulkAll ds ≤ 1048576)
def OpenSpec.upto (s : _root_.Go.ChangeSpec) : _root_.Go.OpenSpec := { _root_.Go.OpenSpec.ofChange s with cond := some uptoSmall }

/-- 'zeitnotlaw43.LeagueTables', WHERE WHAT IT READS IS OF BULK AT MOST 1048576: true; the input reads as it did. -/
def leagueTablesUptoRow : OpenClaim := { program := "ytekbjlihpmjlfaa", sum := "1bba784ab57731e1ad529475fb92d3eb5bbc2f5669bba0c02d0a022db84632b8", func := "zeitnot/zeitnotlaw43.LeagueTables", spec := "leagueTables", unfollowed := true, recurses := true, apart := false, narrowed := true }
def LeagueTablesUptoSaid : Prop := leagueTablesUptoRow.holds Try.pinned (OpenSpec.upto leagueTablesSpec)

/-- 'zeitnotlaw43.LeagueCrosses', WHERE WHAT IT READS IS OF BULK AT MOST 1048576: true; the input reads as it did. -/
def leagueCrossesUptoRow : OpenClaim := { program := "ytekbjlihpmjlfaa", sum := "1bba784ab57731e1ad529475fb92d3eb5bbc2f5669bba0c02d0a022db84632b8", func := "zeitnot/zeitnotlaw43.LeagueCrosses", spec := "leagueCrosses", unfollowed := true, recurses := true, apart := false, narrowed := true }
def LeagueCrossesUptoSaid : Prop := leagueCrossesUptoRow.holds Try.pinned (OpenSpec.upto leagueCrossesSpec)

/-- 'zeitnotlaw43.LeagueSchedules', WHERE WHAT IT READS IS OF BULK AT MOST 1048576: true; the input reads as it did. -/
def leagueSchedulesUptoRow : OpenClaim := { program := "ytekbjlihpmjlfaa", sum := "1bba784ab57731e1ad529475fb92d3eb5bbc2f5669bba0c02d0a022db84632b8", func := "zeitnot/zeitnotlaw43.LeagueSchedules", spec := "leagueSchedules", unfollowed := true, recurses := true, apart := false, narrowed := true }
def LeagueSchedulesUptoSaid : Prop := leagueSchedulesUptoRow.holds Try.pinned (OpenSpec.upto leagueSchedulesSpec)

/-- 'zeitnotlaw43.LeagueFulls', WHERE WHAT IT READS IS OF BULK AT MOST 1048576: true; the input reads as it did. -/
def leagueFullsUptoRow : OpenClaim := { program := "ytekbjlihpmjlfaa", sum := "1bba784ab57731e1ad529475fb92d3eb5bbc2f5669bba0c02d0a022db84632b8", func := "zeitnot/zeitnotlaw43.LeagueFulls", spec := "leagueFulls", unfollowed := true, recurses := true, apart := false, narrowed := true }
def LeagueFullsUptoSaid : Prop := leagueFullsUptoRow.holds Try.pinned (OpenSpec.upto leagueFullsSpec)

/-- 'zeitnotlaw43.LeagueHolds', WHERE WHAT IT READS IS OF BULK AT MOST 1048576: true; the input reads as it did. -/
def leagueHoldsUptoRow : OpenClaim := { program := "ytekbjlihpmjlfaa", sum := "1bba784ab57731e1ad529475fb92d3eb5bbc2f5669bba0c02d0a022db84632b8", func := "zeitnot/zeitnotlaw43.LeagueHolds", spec := "leagueHolds", unfollowed := true, recurses := true, apart := false, narrowed := true }
def LeagueHoldsUptoSaid : Prop := leagueHoldsUptoRow.holds Try.pinned (OpenSpec.upto leagueHoldsSpec)

end Rows
end Go.Proofs.Ytekbjlihpmjlfaa
