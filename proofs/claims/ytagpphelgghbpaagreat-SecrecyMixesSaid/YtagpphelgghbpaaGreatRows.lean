/-
  No cell of these rows narrows 'for every input' (looked for: loops, veiled, ifaces, maps, wideKeys, modest, calm, conditions, laid).
  DERIVED. THE GIVEN ROWS OF THIS SEAT. 3 by the template 'for every input the law returns true; each argument reads behind the call as it read before'; 0 by the template 'total and deterministic' (their statements: YtagpphelgghbpaaGreatTotals.lean).
  GIVEN WITH THE SEED: the statements are not yours to turn. If you find one false, say at which input.
  Laid BY PROGRAM, IN A SANDBOX (cutbox-rows.mjs): the forced cells as the released guide's own fill.sh prints them over the translation 248f423bc22e1d16… (all of the seat's roots in one cut). By AI agents, Wed Nov 11 2026. No macro, syntax, notation, axiom, sorry.
-/
import Derived.Test.YtagpphelgghbpaaGreatChecked
import GoSem.Claim
import GoSem.ClaimJoined
import GoSem.ClaimMapViews
import Derived.JoinedTies
import Derived.KernelRfl
namespace Go.Proofs.YtagpphelgghbpaaGreat
/- THE CELL 'sum', in the pinned program and in every row, IS THE sha256 OF THE DUMP (.gsa) THAT YtagpphelgghbpaaGreatProg.lean LOADS. Nothing in Lean hashes anything: it is a label: what it is worth is what the hold of that sum in a sandbox is worth. -/
noncomputable def Tryz.pinned : Pinned := { name := "ytagpphelgghbpaagreat", sum := "248f423bc22e1d16ab8d7714ef2ff40a7d5055dbfcb9f8c6d2e013428403a708", checked := Tryz.checked }
namespace Rows
def none {H : Type} : Left H := { results := [], args := [] }

/-- 'zeitnotlaw36.SecrecyMixes': WHATEVER THE INPUT: true; the input reads as it did. -/
def secrecyMixesSpec : ChangeSpec := { name := "secrecyMixes", fn := fun _ => fun
  | [d1, d2, d3] => { results := [.lit (.bool true)], args := [d1, d2, d3] }
  | _ => none }
def secrecyMixesRow : OpenClaim := { program := "ytagpphelgghbpaagreat", sum := "248f423bc22e1d16ab8d7714ef2ff40a7d5055dbfcb9f8c6d2e013428403a708", func := "zeitnot/zeitnotlaw36.SecrecyMixes", spec := "secrecyMixes", unfollowed := true, recurses := true, apart := false }
def SecrecyMixesSaid : Prop := secrecyMixesRow.holds Tryz.pinned (OpenSpec.ofChange secrecyMixesSpec)

/-- ITS FALSE NEIGHBOUR: 'it returns false'. Refute it at one input. -/
def secrecyMixesWrong : ChangeSpec := { name := "secrecyMixes", fn := fun _ => fun
  | [d1, d2, d3] => { results := [.lit (.bool false)], args := [d1, d2, d3] }
  | _ => none }
def SecrecyMixesWrongFalsely : Prop := secrecyMixesRow.holds Tryz.pinned (OpenSpec.ofChange secrecyMixesWrong)

/-- 'zeitnotlaw36.SecrecyAlike': WHATEVER THE INPUT: true; the input reads as it did. -/
def secrecyAlikeSpec : ChangeSpec := { name := "secrecyAlike", fn := fun _ => fun
  | [d1, d2, d3] => { results := [.lit (.bool true)], args := [d1, d2, d3] }
  | _ => none }
def secrecyAlikeRow : OpenClaim := { program := "ytagpphelgghbpaagreat", sum := "248f423bc22e1d16ab8d7714ef2ff40a7d5055dbfcb9f8c6d2e013428403a708", func := "zeitnot/zeitnotlaw36.SecrecyAlike", spec := "secrecyAlike", unfollowed := true, recurses := true, apart := false }
def SecrecyAlikeSaid : Prop := secrecyAlikeRow.holds Tryz.pinned (OpenSpec.ofChange secrecyAlikeSpec)

/-- ITS FALSE NEIGHBOUR: 'it returns false'. Refute it at one input. -/
def secrecyAlikeWrong : ChangeSpec := { name := "secrecyAlike", fn := fun _ => fun
  | [d1, d2, d3] => { results := [.lit (.bool false)], args := [d1, d2, d3] }
  | _ => none }
def SecrecyAlikeWrongFalsely : Prop := secrecyAlikeRow.holds Tryz.pinned (OpenSpec.ofChange secrecyAlikeWrong)

/-- 'zeitnotlaw36.SecrecyHides': WHATEVER THE INPUT: true; the input reads as it did. -/
def secrecyHidesSpec : ChangeSpec := { name := "secrecyHides", fn := fun _ => fun
  | [d1, d2, d3] => { results := [.lit (.bool true)], args := [d1, d2, d3] }
  | _ => none }
def secrecyHidesRow : OpenClaim := { program := "ytagpphelgghbpaagreat", sum := "248f423bc22e1d16ab8d7714ef2ff40a7d5055dbfcb9f8c6d2e013428403a708", func := "zeitnot/zeitnotlaw36.SecrecyHides", spec := "secrecyHides", unfollowed := true, recurses := true, apart := false }
def SecrecyHidesSaid : Prop := secrecyHidesRow.holds Tryz.pinned (OpenSpec.ofChange secrecyHidesSpec)

/-- ITS FALSE NEIGHBOUR: 'it returns false'. Refute it at one input. -/
def secrecyHidesWrong : ChangeSpec := { name := "secrecyHides", fn := fun _ => fun
  | [d1, d2, d3] => { results := [.lit (.bool false)], args := [d1, d2, d3] }
  | _ => none }
def SecrecyHidesWrongFalsely : Prop := secrecyHidesRow.holds Tryz.pinned (OpenSpec.ofChange secrecyHidesWrong)

/- THE SECOND FORM. 'bulk': how many values and letters a reading holds, each counted each time it is reached (what is shared counts as often as it is met; a slice's spare places count too). A statement '..UptoSaid' is the law's where the arguments, and the package variables that the reading takes, are together of bulk at most 1048576: NARROWER than '..Said'. Prove '..Said' where nothing that the law and all that it calls make is longer than what came in: it says more and counts as full. Else prove '..UptoSaid'. A law counts once. -/
mutual
def uptoBulk {H : Type} : DataW H → Nat
  | .lit (.string bytes) => bytes.length + 1
  | .lit _ => 1
  | .nil => 1
  | .ptr d => uptoBulk d + 1
  | .slice elems spare => uptoBulkAll elems + uptoBulkAll spare + 1
  | .agg parts => uptoBulkAll parts + 1
  | .iface _ d => uptoBulk d + 1
  | .map entries => uptoBulkEntries entries + 1
  | .held _ => 1
def uptoBulkAll {H : Type} : List (DataW H) → Nat
  | [] => 0
  | d :: r => uptoBulk d + uptoBulkAll r
def uptoBulkEntries {H : Type} : List (Lit × DataW H) → Nat
  | [] => 0
  | x :: r => uptoBulkEntry x + uptoBulkEntries r
def uptoBulkEntry {H : Type} : Lit × DataW H → Nat
  | (.string bytes, d) => bytes.length + uptoBulk d + 1
  | (_, d) => uptoBulk d + 1
 end
def uptoSmall : (H : Type) → List (DataW H) → Bool := fun _ ds => decide (uptoBulkAll ds ≤ 1048576)
def OpenSpec.upto (s : _root_.Go.ChangeSpec) : _root_.Go.OpenSpec := { _root_.Go.OpenSpec.ofChange s with cond := some uptoSmall }

/-- 'zeitnotlaw36.SecrecyMixes', WHERE WHAT IT READS IS OF BULK AT MOST 1048576: true; the input reads as it did. -/
def secrecyMixesUptoRow : OpenClaim := { program := "ytagpphelgghbpaagreat", sum := "248f423bc22e1d16ab8d7714ef2ff40a7d5055dbfcb9f8c6d2e013428403a708", func := "zeitnot/zeitnotlaw36.SecrecyMixes", spec := "secrecyMixes", unfollowed := true, recurses := true, apart := false, narrowed := true }
def SecrecyMixesUptoSaid : Prop := secrecyMixesUptoRow.holds Tryz.pinned (OpenSpec.upto secrecyMixesSpec)

/-- 'zeitnotlaw36.SecrecyAlike', WHERE WHAT IT READS IS OF BULK AT MOST 1048576: true; the input reads as it did. -/
def secrecyAlikeUptoRow : OpenClaim := { program := "ytagpphelgghbpaagreat", sum := "248f423bc22e1d16ab8d7714ef2ff40a7d5055dbfcb9f8c6d2e013428403a708", func := "zeitnot/zeitnotlaw36.SecrecyAlike", spec := "secrecyAlike", unfollowed := true, recurses := true, apart := false, narrowed := true }
def SecrecyAlikeUptoSaid : Prop := secrecyAlikeUptoRow.holds Tryz.pinned (OpenSpec.upto secrecyAlikeSpec)

/-- 'zeitnotlaw36.SecrecyHides', WHERE WHAT IT READS IS OF BULK AT MOST 1048576: true; the input reads as it did. -/
def secrecyHidesUptoRow : OpenClaim := { program := "ytagpphelgghbpaagreat", sum := "248f423bc22e1d16ab8d7714ef2ff40a7d5055dbfcb9f8c6d2e013428403a708", func := "zeitnot/zeitnotlaw36.SecrecyHides", spec := "secrecyHides", unfollowed := true, recurses := true, apart := false, narrowed := true }
def SecrecyHidesUptoSaid : Prop := secrecyHidesUptoRow.holds Tryz.pinned (OpenSpec.upto secrecyHidesSpec)

end Rows
end Go.Proofs.YtagpphelgghbpaaGreat
