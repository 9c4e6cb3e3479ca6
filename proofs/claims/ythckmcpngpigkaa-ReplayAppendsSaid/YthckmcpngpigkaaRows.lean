/-
  No cell of these rows narrows 'for every input' (looked for: loops, veiled, ifaces, maps, wideKeys, modest, calm, conditions, laid).
  DERIVED. THE GIVEN ROWS OF THIS SEAT. 4 by the template 'for every input the law returns true; each argument reads behind the call as it read before'; 0 by the template 'total and deterministic' (their statements: YthckmcpngpigkaaTotals.lean).
  GIVEN WITH THE SEED: the statements are not yours to turn. If you find one false, say at which input.
  Laid BY PROGRAM, IN A SANDBOX (cutbox-rows.mjs): the forced cells as the released guide's own fill.sh prints them over the translation 09bfc8d164561ab8… (all of the seat's roots in one cut). By AI agents, Wed Nov 11 2026. No macro, syntax, notation, axiom, sorry.
-/
import Derived.Test.YthckmcpngpigkaaChecked
import GoSem.Claim
import GoSem.ClaimJoined
import GoSem.ClaimMapViews
import Derived.JoinedTies
import Derived.KernelRfl
namespace Go.Proofs.Ythckmcpngpigkaa
/- THE CELL 'sum', in the pinned program and in every row, IS THE sha256 OF THE DUMP (.gsa) THAT YthckmcpngpigkaaProg.lean LOADS. Nothing in Lean hashes anything: it is a label: what it is worth is what the hold of that sum in a sandbox is worth. -/
noncomputable def Try.pinned : Pinned := { name := "ythckmcpngpigkaa", sum := "09bfc8d164561ab8e8098d6340b13570ec6c5f0b20f74a55f7a77d6ba59d5aea", checked := Try.checked }
namespace Rows
def none {H : Type} : Left H := { results := [], args := [] }

/-- 'zeitnotlaw47.ReplayReads': WHATEVER THE INPUT: true; the input reads as it did. -/
def replayReadsSpec : ChangeSpec := { name := "replayReads", fn := fun _ => fun
  | [d1, d2] => { results := [.lit (.bool true)], args := [d1, d2] }
  | _ => none }
def replayReadsRow : OpenClaim := { program := "ythckmcpngpigkaa", sum := "09bfc8d164561ab8e8098d6340b13570ec6c5f0b20f74a55f7a77d6ba59d5aea", func := "zeitnot/zeitnotlaw47.ReplayReads", spec := "replayReads", recurses := true, apart := false }
def ReplayReadsSaid : Prop := replayReadsRow.holds Try.pinned (OpenSpec.ofChange replayReadsSpec)

/-- ITS FALSE NEIGHBOUR: 'it returns false'. Refute it at one input. -/
def replayReadsWrong : ChangeSpec := { name := "replayReads", fn := fun _ => fun
  | [d1, d2] => { results := [.lit (.bool false)], args := [d1, d2] }
  | _ => none }
def ReplayReadsWrongFalsely : Prop := replayReadsRow.holds Try.pinned (OpenSpec.ofChange replayReadsWrong)

/-- 'zeitnotlaw47.ReplaySpoilt': WHATEVER THE INPUT: true; the input reads as it did. -/
def replaySpoiltSpec : ChangeSpec := { name := "replaySpoilt", fn := fun _ => fun
  | [d1, d2, d3, d4, d5, d6] => { results := [.lit (.bool true)], args := [d1, d2, d3, d4, d5, d6] }
  | _ => none }
def replaySpoiltRow : OpenClaim := { program := "ythckmcpngpigkaa", sum := "09bfc8d164561ab8e8098d6340b13570ec6c5f0b20f74a55f7a77d6ba59d5aea", func := "zeitnot/zeitnotlaw47.ReplaySpoilt", spec := "replaySpoilt", recurses := true, apart := false }
def ReplaySpoiltSaid : Prop := replaySpoiltRow.holds Try.pinned (OpenSpec.ofChange replaySpoiltSpec)

/-- ITS FALSE NEIGHBOUR: 'it returns false'. Refute it at one input. -/
def replaySpoiltWrong : ChangeSpec := { name := "replaySpoilt", fn := fun _ => fun
  | [d1, d2, d3, d4, d5, d6] => { results := [.lit (.bool false)], args := [d1, d2, d3, d4, d5, d6] }
  | _ => none }
def ReplaySpoiltWrongFalsely : Prop := replaySpoiltRow.holds Try.pinned (OpenSpec.ofChange replaySpoiltWrong)

/-- 'zeitnotlaw47.ReplayFulls': WHATEVER THE INPUT: true; the input reads as it did. -/
def replayFullsSpec : ChangeSpec := { name := "replayFulls", fn := fun _ => fun
  | [d1, d2] => { results := [.lit (.bool true)], args := [d1, d2] }
  | _ => none }
def replayFullsRow : OpenClaim := { program := "ythckmcpngpigkaa", sum := "09bfc8d164561ab8e8098d6340b13570ec6c5f0b20f74a55f7a77d6ba59d5aea", func := "zeitnot/zeitnotlaw47.ReplayFulls", spec := "replayFulls", recurses := true, apart := false }
def ReplayFullsSaid : Prop := replayFullsRow.holds Try.pinned (OpenSpec.ofChange replayFullsSpec)

/-- ITS FALSE NEIGHBOUR: 'it returns false'. Refute it at one input. -/
def replayFullsWrong : ChangeSpec := { name := "replayFulls", fn := fun _ => fun
  | [d1, d2] => { results := [.lit (.bool false)], args := [d1, d2] }
  | _ => none }
def ReplayFullsWrongFalsely : Prop := replayFullsRow.holds Try.pinned (OpenSpec.ofChange replayFullsWrong)

/-- 'zeitnotlaw47.ReplayAppends': WHATEVER THE INPUT: true; the input reads as it did. -/
def replayAppendsSpec : ChangeSpec := { name := "replayAppends", fn := fun _ => fun
  | [d1, d2, d3, d4] => { results := [.lit (.bool true)], args := [d1, d2, d3, d4] }
  | _ => none }
def replayAppendsRow : OpenClaim := { program := "ythckmcpngpigkaa", sum := "09bfc8d164561ab8e8098d6340b13570ec6c5f0b20f74a55f7a77d6ba59d5aea", func := "zeitnot/zeitnotlaw47.ReplayAppends", spec := "replayAppends", recurses := true, apart := false }
def ReplayAppendsSaid : Prop := replayAppendsRow.holds Try.pinned (OpenSpec.ofChange replayAppendsSpec)

/-- ITS FALSE NEIGHBOUR: 'it returns false'. Refute it at one input. -/
def replayAppendsWrong : ChangeSpec := { name := "replayAppends", fn := fun _ => fun
  | [d1, d2, d3, d4] => { results := [.lit (.bool false)], args := [d1, d2, d3, d4] }
  | _ => none }
def ReplayAppendsWrongFalsely : Prop := replayAppendsRow.holds Try.pinned (OpenSpec.ofChange replayAppendsWrong)

/- THE SECOND FORM. 'bulk': how many values and letters a reading holds, each counted each time it is reached (what is shared counts as often as it is met; a slice's spare places count too). A statement '..UptoSaid' is the law's where the arguments, and the package variables that the reading takes, are together of bulk at most 1048576: NARROWER than '..Said'. Prove '..Said' where nothing that the law and all that it calls make is longer than what came in: it says more and counts as full. Else prove '..UptoSaid'. A law counts once. -/
mutual
def uptoBulk {H : Type} : DataW H → Nat
  | .lit (.string bytes) => bytes.length + 1
  | .lit _ => 1
  | .nil => 1
  | .ptr d => uptoBulk d + 1
  | .slice elems spare => uptoBulkAll elems + uptoBulkAll spare + 1
  | .agg parts => uptoBulkAll parts + 1
  | .iface _ d => uptoBulk d + 1
  | .map entries => uptoBulkEntries entries + 1
  | .held _ => 1
def uptoBulkAll {H : Type} : List (DataW H) → Nat
  | [] => 0
  | d :: r => uptoBulk d + uptoBulkAll r
def uptoBulkEntries {H : Type} : List (Lit × DataW H) → Nat
  | [] => 0
  | x :: r => uptoBulkEntry x + uptoBulkEntries r
def uptoBulkEntry {H : Type} : Lit × DataW H → Nat
  | (.string bytes, d) => bytes.length + uptoBulk d + 1
  | (_, d) => uptoBulk d + 1
 end
def uptoSmall : (H : Type) → List (DataW H) → Bool := fun _ ds => decide (uptoBulkAll ds ≤ 1048576)
def OpenSpec.upto (s : _root_.Go.ChangeSpec) : _root_.Go.OpenSpec := { _root_.Go.OpenSpec.ofChange s with cond := some uptoSmall }

/-- 'zeitnotlaw47.ReplayReads', WHERE WHAT IT READS IS OF BULK AT MOST 1048576: true; the input reads as it did. -/
def replayReadsUptoRow : OpenClaim := { program := "ythckmcpngpigkaa", sum := "09bfc8d164561ab8e8098d6340b13570ec6c5f0b20f74a55f7a77d6ba59d5aea", func := "zeitnot/zeitnotlaw47.ReplayReads", spec := "replayReads", recurses := true, apart := false, narrowed := true }
def ReplayReadsUptoSaid : Prop := replayReadsUptoRow.holds Try.pinned (OpenSpec.upto replayReadsSpec)

/-- 'zeitnotlaw47.ReplaySpoilt', WHERE WHAT IT READS IS OF BULK AT MOST 1048576: true; the input reads as it did. -/
def replaySpoiltUptoRow : OpenClaim := { program := "ythckmcpngpigkaa", sum := "09bfc8d164561ab8e8098d6340b13570ec6c5f0b20f74a55f7a77d6ba59d5aea", func := "zeitnot/zeitnotlaw47.ReplaySpoilt", spec := "replaySpoilt", recurses := true, apart := false, narrowed := true }
def ReplaySpoiltUptoSaid : Prop := replaySpoiltUptoRow.holds Try.pinned (OpenSpec.upto replaySpoiltSpec)

/-- 'zeitnotlaw47.ReplayFulls', WHERE WHAT IT READS IS OF BULK AT MOST 1048576: true; the input reads as it did. -/
def replayFullsUptoRow : OpenClaim := { program := "ythckmcpngpigkaa", sum := "09bfc8d164561ab8e8098d6340b13570ec6c5f0b20f74a55f7a77d6ba59d5aea", func := "zeitnot/zeitnotlaw47.ReplayFulls", spec := "replayFulls", recurses := true, apart := false, narrowed := true }
def ReplayFullsUptoSaid : Prop := replayFullsUptoRow.holds Try.pinned (OpenSpec.upto replayFullsSpec)

/-- 'zeitnotlaw47.ReplayAppends', WHERE WHAT IT READS IS OF BULK AT MOST 1048576: true; the input reads as it did. -/
def replayAppendsUptoRow : OpenClaim := { program := "ythckmcpngpigkaa", sum := "09bfc8d164561ab8e8098d6340b13570ec6c5f0b20f74a55f7a77d6ba59d5aea", func := "zeitnot/zeitnotlaw47.ReplayAppends", spec := "replayAppends", recurses := true, apart := false, narrowed := true }
def ReplayAppendsUptoSaid : Prop := replayAppendsUptoRow.holds Try.pinned (OpenSpec.upto replayAppendsSpec)

end Rows
end Go.Proofs.Ythckmcpngpigkaa
