/-
  No cell of these rows narrows 'for every input' (looked for: loops, veiled, ifaces, maps, wideKeys, modest, calm, conditions, laid).
  DERIVED. THE GIVEN ROWS OF THIS SEAT. 5 by the template 'for every input the law returns true; each argument reads behind the call as it read before'; 0 by the template 'total and deterministic' (their statements: YtngcmihaheiigaaTotals.lean).
  GIVEN WITH THE SEED: the statements are not yours to turn. If you find one false, say at which input.
  Laid BY PROGRAM, IN A SANDBOX (cutbox-rows.mjs): the forced cells as the released guide's own fill.sh prints them over the translation 0625f91239cbffb9… (all of the seat's roots in one cut). By AI agents, Wed Nov 11 2026. No macro, syntax, notation, axiom, sorry.
-/
import Derived.Test.YtngcmihaheiigaaChecked
import GoSem.Claim
import GoSem.ClaimJoined
import GoSem.ClaimMapViews
import Derived.JoinedTies
import Derived.KernelRfl
namespace Go.Proofs.Ytngcmihaheiigaa
/- THE CELL 'sum', in the pinned program and in every row, IS THE sha256 OF THE DUMP (.gsa) THAT YtngcmihaheiigaaProg.lean LOADS. Nothing in Lean hashes anything: it is a label: what it is worth is what the hold of that sum in a sandbox is worth. -/
noncomputable def Try.pinned : Pinned := { name := "ytngcmihaheiigaa", sum := "0625f91239cbffb9798a2e64938e029b6ba77995bc78a49b5911b854feb5581a", checked := Try.checked }
namespace Rows
def none {H : Type} : Left H := { results := [], args := [] }

/-- 'zeitnotlaw41.PairingHolds': WHATEVER THE INPUT: true; the input reads as it did. -/
def pairingHoldsSpec : ChangeSpec := { name := "pairingHolds", fn := fun _ => fun
  | [d1, d2, d3] => { results := [.lit (.bool true)], args := [d1, d2, d3] }
  | _ => none }
def pairingHoldsRow : OpenClaim := { program := "ytngcmihaheiigaa", sum := "0625f91239cbffb9798a2e64938e029b6ba77995bc78a49b5911b854feb5581a", func := "zeitnot/zeitnotlaw41.PairingHolds", spec := "pairingHolds", unfollowed := true, recurses := true, apart := false }
def PairingHoldsSaid : Prop := pairingHoldsRow.holds Try.pinned (OpenSpec.ofChange pairingHoldsSpec)

/-- ITS FALSE NEIGHBOUR: 'it returns false'. Refute it at one input. -/
def pairingHoldsWrong : ChangeSpec := { name := "pairingHolds", fn := fun _ => fun
  | [d1, d2, d3] => { results := [.lit (.bool false)], args := [d1, d2, d3] }
  | _ => none }
def PairingHoldsWrongFalsely : Prop := pairingHoldsRow.holds Try.pinned (OpenSpec.ofChange pairingHoldsWrong)

/-- 'zeitnotlaw41.PairingNew': WHATEVER THE INPUT: true; the input reads as it did. -/
def pairingNewSpec : ChangeSpec := { name := "pairingNew", fn := fun _ => fun
  | [d] => { results := [.lit (.bool true)], args := [d] }
  | _ => none }
def pairingNewRow : OpenClaim := { program := "ytngcmihaheiigaa", sum := "0625f91239cbffb9798a2e64938e029b6ba77995bc78a49b5911b854feb5581a", func := "zeitnot/zeitnotlaw41.PairingNew", spec := "pairingNew", unfollowed := true, recurses := true, apart := false }
def PairingNewSaid : Prop := pairingNewRow.holds Try.pinned (OpenSpec.ofChange pairingNewSpec)

/-- ITS FALSE NEIGHBOUR: 'it returns false'. Refute it at one input. -/
def pairingNewWrong : ChangeSpec := { name := "pairingNew", fn := fun _ => fun
  | [d] => { results := [.lit (.bool false)], args := [d] }
  | _ => none }
def PairingNewWrongFalsely : Prop := pairingNewRow.holds Try.pinned (OpenSpec.ofChange pairingNewWrong)

/-- 'zeitnotlaw41.PairingRounds': WHATEVER THE INPUT: true; the input reads as it did. -/
def pairingRoundsSpec : ChangeSpec := { name := "pairingRounds", fn := fun _ => fun
  | [d1, d2] => { results := [.lit (.bool true)], args := [d1, d2] }
  | _ => none }
def pairingRoundsRow : OpenClaim := { program := "ytngcmihaheiigaa", sum := "0625f91239cbffb9798a2e64938e029b6ba77995bc78a49b5911b854feb5581a", func := "zeitnot/zeitnotlaw41.PairingRounds", spec := "pairingRounds", unfollowed := true, recurses := true, apart := false }
def PairingRoundsSaid : Prop := pairingRoundsRow.holds Try.pinned (OpenSpec.ofChange pairingRoundsSpec)

/-- ITS FALSE NEIGHBOUR: 'it returns false'. Refute it at one input. -/
def pairingRoundsWrong : ChangeSpec := { name := "pairingRounds", fn := fun _ => fun
  | [d1, d2] => { results := [.lit (.bool false)], args := [d1, d2] }
  | _ => none }
def PairingRoundsWrongFalsely : Prop := pairingRoundsRow.holds Try.pinned (OpenSpec.ofChange pairingRoundsWrong)

/-- 'zeitnotlaw41.PairingPlays': WHATEVER THE INPUT: true; the input reads as it did. -/
def pairingPlaysSpec : ChangeSpec := { name := "pairingPlays", fn := fun _ => fun
  | [d1, d2] => { results := [.lit (.bool true)], args := [d1, d2] }
  | _ => none }
def pairingPlaysRow : OpenClaim := { program := "ytngcmihaheiigaa", sum := "0625f91239cbffb9798a2e64938e029b6ba77995bc78a49b5911b854feb5581a", func := "zeitnot/zeitnotlaw41.PairingPlays", spec := "pairingPlays", unfollowed := true, recurses := true, apart := false }
def PairingPlaysSaid : Prop := pairingPlaysRow.holds Try.pinned (OpenSpec.ofChange pairingPlaysSpec)

/-- ITS FALSE NEIGHBOUR: 'it returns false'. Refute it at one input. -/
def pairingPlaysWrong : ChangeSpec := { name := "pairingPlays", fn := fun _ => fun
  | [d1, d2] => { results := [.lit (.bool false)], args := [d1, d2] }
  | _ => none }
def PairingPlaysWrongFalsely : Prop := pairingPlaysRow.holds Try.pinned (OpenSpec.ofChange pairingPlaysWrong)

/-- 'zeitnotlaw41.PairingNone': WHATEVER THE INPUT: true; the input reads as it did. -/
def pairingNoneSpec : ChangeSpec := { name := "pairingNone", fn := fun _ => fun
  | [d1, d2] => { results := [.lit (.bool true)], args := [d1, d2] }
  | _ => none }
def pairingNoneRow : OpenClaim := { program := "ytngcmihaheiigaa", sum := "0625f91239cbffb9798a2e64938e029b6ba77995bc78a49b5911b854feb5581a", func := "zeitnot/zeitnotlaw41.PairingNone", spec := "pairingNone", unfollowed := true, recurses := true, apart := false }
def PairingNoneSaid : Prop := pairingNoneRow.holds Try.pinned (OpenSpec.ofChange pairingNoneSpec)

/-- ITS FALSE NEIGHBOUR: 'it returns false'. Refute it at one input. -/
def pairingNoneWrong : ChangeSpec := { name := "pairingNone", fn := fun _ => fun
  | [d1, d2] => { results := [.lit (.bool false)], args := [d1, d2] }
  | _ => none }
def PairingNoneWrongFalsely : Prop := pairingNoneRow.holds Try.pinned (OpenSpec.ofChange pairingNoneWrong)

/- THE SECOND FORM. 'bulk': how many values and letters a reading holds, each counted each time it is reached (what is shared counts as often as it is met; a slice's spare places count too). A statement '..UptoSaid' is the law's where the arguments, and the package variables that the reading takes, are together of bulk at most 1048576: NARROWER than '..Said'. Prove '..Said' where nothing that the law and all that it calls make is longer than what came in: it says more and counts as full. Else prove '..UptoSaid'. A law counts once. -/
mutual
def uptoBulk {H : Type} : DataW H → Nat
  | .lit (.string bytes) => bytes.length + 1
  | .lit _ => 1
  | .nil => 1
  | .ptr d => uptoBulk d + 1
  | .slice elems spare => uptoBulkAll elems + uptoBulkAll spare + 1
  | .agg parts => uptoBulkAll parts + 1
  | .iface _ d => uptoBulk d + 1
  | .map entries => uptoBulkEntries entries + 1
  | .held _ => 1
def uptoBulkAll {H : Type} : List (DataW H) → Nat
  | [] => 0
  | d :: r => uptoBulk d + uptoBulkAll r
def uptoBulkEntries {H : Type} : List (Lit × DataW H) → Nat
  | [] => 0
  | x :: r => uptoBulkEntry x + uptoBulkEntries r
def uptoBulkEntry {H : Type} : Lit × DataW H → Nat
  | (.string bytes, d) => bytes.length + uptoBulk d + 1
  | (_, d) => uptoBulk d + 1
 end
def uptoSmall : (H : Type) → List (DataW H) → Bool := fun _ ds => decide (uptoBulkAll ds ≤ 1048576)
def OpenSpec.upto (s : _root_.Go.ChangeSpec) : _root_.Go.OpenSpec := { _root_.Go.OpenSpec.ofChange s with cond := some uptoSmall }

/-- 'zeitnotlaw41.PairingHolds', WHERE WHAT IT READS IS OF BULK AT MOST 1048576: true; the input reads as it did. -/
def pairingHoldsUptoRow : OpenClaim := { program := "ytngcmihaheiigaa", sum := "0625f91239cbffb9798a2e64938e029b6ba77995bc78a49b5911b854feb5581a", func := "zeitnot/zeitnotlaw41.PairingHolds", spec := "pairingHolds", unfollowed := true, recurses := true, apart := false, narrowed := true }
def PairingHoldsUptoSaid : Prop := pairingHoldsUptoRow.holds Try.pinned (OpenSpec.upto pairingHoldsSpec)

/-- 'zeitnotlaw41.PairingNew', WHERE WHAT IT READS IS OF BULK AT MOST 1048576: true; the input reads as it did. -/
def pairingNewUptoRow : OpenClaim := { program := "ytngcmihaheiigaa", sum := "0625f91239cbffb9798a2e64938e029b6ba77995bc78a49b5911b854feb5581a", func := "zeitnot/zeitnotlaw41.PairingNew", spec := "pairingNew", unfollowed := true, recurses := true, apart := false, narrowed := true }
def PairingNewUptoSaid : Prop := pairingNewUptoRow.holds Try.pinned (OpenSpec.upto pairingNewSpec)

/-- 'zeitnotlaw41.PairingRounds', WHERE WHAT IT READS IS OF BULK AT MOST 1048576: true; the input reads as it did. -/
def pairingRoundsUptoRow : OpenClaim := { program := "ytngcmihaheiigaa", sum := "0625f91239cbffb9798a2e64938e029b6ba77995bc78a49b5911b854feb5581a", func := "zeitnot/zeitnotlaw41.PairingRounds", spec := "pairingRounds", unfollowed := true, recurses := true, apart := false, narrowed := true }
def PairingRoundsUptoSaid : Prop := pairingRoundsUptoRow.holds Try.pinned (OpenSpec.upto pairingRoundsSpec)

/-- 'zeitnotlaw41.PairingPlays', WHERE WHAT IT READS IS OF BULK AT MOST 1048576: true; the input reads as it did. -/
def pairingPlaysUptoRow : OpenClaim := { program := "ytngcmihaheiigaa", sum := "0625f91239cbffb9798a2e64938e029b6ba77995bc78a49b5911b854feb5581a", func := "zeitnot/zeitnotlaw41.PairingPlays", spec := "pairingPlays", unfollowed := true, recurses := true, apart := false, narrowed := true }
def PairingPlaysUptoSaid : Prop := pairingPlaysUptoRow.holds Try.pinned (OpenSpec.upto pairingPlaysSpec)

/-- 'zeitnotlaw41.PairingNone', WHERE WHAT IT READS IS OF BULK AT MOST 1048576: true; the input reads as it did. -/
def pairingNoneUptoRow : OpenClaim := { program := "ytngcmihaheiigaa", sum := "0625f91239cbffb9798a2e64938e029b6ba77995bc78a49b5911b854feb5581a", func := "zeitnot/zeitnotlaw41.PairingNone", spec := "pairingNone", unfollowed := true, recurses := true, apart := false, narrowed := true }
def PairingNoneUptoSaid : Prop := pairingNoneUptoRow.holds Try.pinned (OpenSpec.upto pairingNoneSpec)

end Rows
end Go.Proofs.Ytngcmihaheiigaa
