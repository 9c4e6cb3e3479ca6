/-
  No cell of these rows narrows 'for every input' (looked for: loops, veiled, ifaces, maps, wideKeys, modest, calm, conditions, laid).
  DERIVED. THE GIVEN ROWS OF THIS SEAT. 6 by the template 'for every input the law returns true; each argument reads behind the call as it read before'; 0 by the template 'total and deterministic' (their statements: YtbcleifhadkecaaTotals.lean).
  GIVEN WITH THE SEED: the statements are not yours to turn. If you find one false, say at which input.
  Laid BY PROGRAM, IN A SANDBOX (cutbox-rows.mjs): the forced cells as the released guide's own fill.sh prints them over the translation b025912b1fa8c8f1… (all of the seat's roots in one cut). By AI agents, Wed Nov 11 2026. No macro, syntax, notation, axiom, sorry.
-/
import Derived.Test.YtbcleifhadkecaaChecked
import GoSem.Claim
import GoSem.ClaimJoined
import GoSem.ClaimMapViews
import Derived.JoinedTies
import Derived.KernelRfl
namespace Go.Proofs.Ytbcleifhadkecaa
/- THE CELL 'sum', in the pinned program and in every row, IS THE sha256 OF THE DUMP (.gsa) THAT YtbcleifhadkecaaProg.lean LOADS. Nothing in Lean hashes anything: it is a label: what it is worth is what the hold of that sum in a sandbox is worth. -/
noncomputable def Try.pinned : Pinned := { name := "ytbcleifhadkecaa", sum := "b025912b1fa8c8f1c885047b751df35cf3bd84cda8a5758d7aa06c7aaa7cd3bf", checked := Try.checked }
namespace Rows
def none {H : Type} : Left H := { results := [], args := [] }

/-- 'zeitnotlaw29.FrameWrites': WHATEVER THE INPUT: true; the input reads as it did. -/
def frameWritesSpec : ChangeSpec := { name := "frameWrites", fn := fun _ => fun
  | [d] => { results := [.lit (.bool true)], args := [d] }
  | _ => none }
def frameWritesRow : OpenClaim := { program := "ytbcleifhadkecaa", sum := "b025912b1fa8c8f1c885047b751df35cf3bd84cda8a5758d7aa06c7aaa7cd3bf", func := "zeitnot/zeitnotlaw29.FrameWrites", spec := "frameWrites", apart := false }
def FrameWritesSaid : Prop := frameWritesRow.holds Try.pinned (OpenSpec.ofChange frameWritesSpec)

/-- ITS FALSE NEIGHBOUR: 'it returns false'. Refute it at one input. -/
def frameWritesWrong : ChangeSpec := { name := "frameWrites", fn := fun _ => fun
  | [d] => { results := [.lit (.bool false)], args := [d] }
  | _ => none }
def FrameWritesWrongFalsely : Prop := frameWritesRow.holds Try.pinned (OpenSpec.ofChange frameWritesWrong)

/-- 'zeitnotlaw29.FrameReads': WHATEVER THE INPUT: true; the input reads as it did. -/
def frameReadsSpec : ChangeSpec := { name := "frameReads", fn := fun _ => fun
  | [d] => { results := [.lit (.bool true)], args := [d] }
  | _ => none }
def frameReadsRow : OpenClaim := { program := "ytbcleifhadkecaa", sum := "b025912b1fa8c8f1c885047b751df35cf3bd84cda8a5758d7aa06c7aaa7cd3bf", func := "zeitnot/zeitnotlaw29.FrameReads", spec := "frameReads", apart := false }
def FrameReadsSaid : Prop := frameReadsRow.holds Try.pinned (OpenSpec.ofChange frameReadsSpec)

/-- ITS FALSE NEIGHBOUR: 'it returns false'. Refute it at one input. -/
def frameReadsWrong : ChangeSpec := { name := "frameReads", fn := fun _ => fun
  | [d] => { results := [.lit (.bool false)], args := [d] }
  | _ => none }
def FrameReadsWrongFalsely : Prop := frameReadsRow.holds Try.pinned (OpenSpec.ofChange frameReadsWrong)

/-- 'zeitnotlaw29.FrameFrom': WHATEVER THE INPUT: true; the input reads as it did. -/
def frameFromSpec : ChangeSpec := { name := "frameFrom", fn := fun _ => fun
  | [d1, d2] => { results := [.lit (.bool true)], args := [d1, d2] }
  | _ => none }
def frameFromRow : OpenClaim := { program := "ytbcleifhadkecaa", sum := "b025912b1fa8c8f1c885047b751df35cf3bd84cda8a5758d7aa06c7aaa7cd3bf", func := "zeitnot/zeitnotlaw29.FrameFrom", spec := "frameFrom", apart := false }
def FrameFromSaid : Prop := frameFromRow.holds Try.pinned (OpenSpec.ofChange frameFromSpec)

/-- ITS FALSE NEIGHBOUR: 'it returns false'. Refute it at one input. -/
def frameFromWrong : ChangeSpec := { name := "frameFrom", fn := fun _ => fun
  | [d1, d2] => { results := [.lit (.bool false)], args := [d1, d2] }
  | _ => none }
def FrameFromWrongFalsely : Prop := frameFromRow.holds Try.pinned (OpenSpec.ofChange frameFromWrong)

/-- 'zeitnotlaw29.FrameLongs': WHATEVER THE INPUT: true; the input reads as it did. -/
def frameLongsSpec : ChangeSpec := { name := "frameLongs", fn := fun _ => fun
  | [d1, d2] => { results := [.lit (.bool true)], args := [d1, d2] }
  | _ => none }
def frameLongsRow : OpenClaim := { program := "ytbcleifhadkecaa", sum := "b025912b1fa8c8f1c885047b751df35cf3bd84cda8a5758d7aa06c7aaa7cd3bf", func := "zeitnot/zeitnotlaw29.FrameLongs", spec := "frameLongs", apart := false }
def FrameLongsSaid : Prop := frameLongsRow.holds Try.pinned (OpenSpec.ofChange frameLongsSpec)

/-- ITS FALSE NEIGHBOUR: 'it returns false'. Refute it at one input. -/
def frameLongsWrong : ChangeSpec := { name := "frameLongs", fn := fun _ => fun
  | [d1, d2] => { results := [.lit (.bool false)], args := [d1, d2] }
  | _ => none }
def FrameLongsWrongFalsely : Prop := frameLongsRow.holds Try.pinned (OpenSpec.ofChange frameLongsWrong)

/-- 'zeitnotlaw29.FrameHolds': WHATEVER THE INPUT: true; the input reads as it did. -/
def frameHoldsSpec : ChangeSpec := { name := "frameHolds", fn := fun _ => fun
  | [d1, d2, d3, d4] => { results := [.lit (.bool true)], args := [d1, d2, d3, d4] }
  | _ => none }
def frameHoldsRow : OpenClaim := { program := "ytbcleifhadkecaa", sum := "b025912b1fa8c8f1c885047b751df35cf3bd84cda8a5758d7aa06c7aaa7cd3bf", func := "zeitnot/zeitnotlaw29.FrameHolds", spec := "frameHolds", apart := false }
def FrameHoldsSaid : Prop := frameHoldsRow.holds Try.pinned (OpenSpec.ofChange frameHoldsSpec)

/-- ITS FALSE NEIGHBOUR: 'it returns false'. Refute it at one input. -/
def frameHoldsWrong : ChangeSpec := { name := "frameHolds", fn := fun _ => fun
  | [d1, d2, d3, d4] => { results := [.lit (.bool false)], args := [d1, d2, d3, d4] }
  | _ => none }
def FrameHoldsWrongFalsely : Prop := frameHoldsRow.holds Try.pinned (OpenSpec.ofChange frameHoldsWrong)

/-- 'zeitnotlaw29.FrameValid': WHATEVER THE INPUT: true; the input reads as it did. -/
def frameValidSpec : ChangeSpec := { name := "frameValid", fn := fun _ => fun
  | [d1, d2] => { results := [.lit (.bool true)], args := [d1, d2] }
  | _ => none }
def frameValidRow : OpenClaim := { program := "ytbcleifhadkecaa", sum := "b025912b1fa8c8f1c885047b751df35cf3bd84cda8a5758d7aa06c7aaa7cd3bf", func := "zeitnot/zeitnotlaw29.FrameValid", spec := "frameValid", apart := false }
def FrameValidSaid : Prop := frameValidRow.holds Try.pinned (OpenSpec.ofChange frameValidSpec)

/-- ITS FALSE NEIGHBOUR: 'it returns false'. Refute it at one input. -/
def frameValidWrong : ChangeSpec := { name := "frameValid", fn := fun _ => fun
  | [d1, d2] => { results := [.lit (.bool false)], args := [d1, d2] }
  | _ => none }
def FrameValidWrongFalsely : Prop := frameValidRow.holds Try.pinned (OpenSpec.ofChange frameValidWrong)

/- THE SECOND FORM. 'bulk': how many values and letters a reading holds, each counted each time it is reached (what is shared counts as often as it is met; a slice's spare places count too). A statement '..UptoSaid' is the law's where the arguments, and the package variables that the reading takes, are together of bulk at most 1048576: NARROWER than '..Said'. Prove '..Said' where nothing that the law and all that it calls make is longer than what came in: it says more and counts as full. Else prove '..UptoSaid'. A law counts once. -/
mutual
def uptoBulk {H : Type} : DataW H → Nat
  | .lit (.string bytes) => bytes.length + 1
  | .lit _ => 1
  | .nil => 1
  | .ptr d => uptoBulk d + 1
  | .slice elems spare => uptoBulkAll elems + uptoBulkAll spare + 1
  | .agg parts => uptoBulkAll parts + 1
  | .iface _ d => uptoBulk d + 1
  | .map entries => uptoBulkEntries entries + 1
  | .held _ => 1
def uptoBulkAll {H : Type} : List (DataW H) → Nat
  | [] => 0
  | d :: r => uptoBulk d + uptoBulkAll r
def uptoBulkEntries {H : Type} : List (Lit × DataW H) → Nat
  | [] => 0
  | x :: r => uptoBulkEntry x + uptoBulkEntries r
def uptoBulkEntry {H : Type} : Lit × DataW H → Nat
  | (.string bytes, d) => bytes.length + uptoBulk d + 1
  | (_, d) => uptoBulk d + 1
 end
def uptoSmall : (H : Type) → List (DataW H) → Bool := fun _ ds => decide (uptoBulkAll ds ≤ 1048576)
def OpenSpec.upto (s : _root_.Go.ChangeSpec) : _root_.Go.OpenSpec := { _root_.Go.OpenSpec.ofChange s with cond := some uptoSmall }

/-- 'zeitnotlaw29.FrameWrites', WHERE WHAT IT READS IS OF BULK AT MOST 1048576: true; the input reads as it did. -/
def frameWritesUptoRow : OpenClaim := { program := "ytbcleifhadkecaa", sum := "b025912b1fa8c8f1c885047b751df35cf3bd84cda8a5758d7aa06c7aaa7cd3bf", func := "zeitnot/zeitnotlaw29.FrameWrites", spec := "frameWrites", apart := false, narrowed := true }
def FrameWritesUptoSaid : Prop := frameWritesUptoRow.holds Try.pinned (OpenSpec.upto frameWritesSpec)

/-- 'zeitnotlaw29.FrameReads', WHERE WHAT IT READS IS OF BULK AT MOST 1048576: true; the input reads as it did. -/
def frameReadsUptoRow : OpenClaim := { program := "ytbcleifhadkecaa", sum := "b025912b1fa8c8f1c885047b751df35cf3bd84cda8a5758d7aa06c7aaa7cd3bf", func := "zeitnot/zeitnotlaw29.FrameReads", spec := "frameReads", apart := false, narrowed := true }
def FrameReadsUptoSaid : Prop := frameReadsUptoRow.holds Try.pinned (OpenSpec.upto frameReadsSpec)

/-- 'zeitnotlaw29.FrameFrom', WHERE WHAT IT READS IS OF BULK AT MOST 1048576: true; the input reads as it did. -/
def frameFromUptoRow : OpenClaim := { program := "ytbcleifhadkecaa", sum := "b025912b1fa8c8f1c885047b751df35cf3bd84cda8a5758d7aa06c7aaa7cd3bf", func := "zeitnot/zeitnotlaw29.FrameFrom", spec := "frameFrom", apart := false, narrowed := true }
def FrameFromUptoSaid : Prop := frameFromUptoRow.holds Try.pinned (OpenSpec.upto frameFromSpec)

/-- 'zeitnotlaw29.FrameLongs', WHERE WHAT IT READS IS OF BULK AT MOST 1048576: true; the input reads as it did. -/
def frameLongsUptoRow : OpenClaim := { program := "ytbcleifhadkecaa", sum := "b025912b1fa8c8f1c885047b751df35cf3bd84cda8a5758d7aa06c7aaa7cd3bf", func := "zeitnot/zeitnotlaw29.FrameLongs", spec := "frameLongs", apart := false, narrowed := true }
def FrameLongsUptoSaid : Prop := frameLongsUptoRow.holds Try.pinned (OpenSpec.upto frameLongsSpec)

/-- 'zeitnotlaw29.FrameHolds', WHERE WHAT IT READS IS OF BULK AT MOST 1048576: true; the input reads as it did. -/
def frameHoldsUptoRow : OpenClaim := { program := "ytbcleifhadkecaa", sum := "b025912b1fa8c8f1c885047b751df35cf3bd84cda8a5758d7aa06c7aaa7cd3bf", func := "zeitnot/zeitnotlaw29.FrameHolds", spec := "frameHolds", apart := false, narrowed := true }
def FrameHoldsUptoSaid : Prop := frameHoldsUptoRow.holds Try.pinned (OpenSpec.upto frameHoldsSpec)

/-- 'zeitnotlaw29.FrameValid', WHERE WHAT IT READS IS OF BULK AT MOST 1048576: true; the input reads as it did. -/
def frameValidUptoRow : OpenClaim := { program := "ytbcleifhadkecaa", sum := "b025912b1fa8c8f1c885047b751df35cf3bd84cda8a5758d7aa06c7aaa7cd3bf", func := "zeitnot/zeitnotlaw29.FrameValid", spec := "frameValid", apart := false, narrowed := true }
def FrameValidUptoSaid : Prop := frameValidUptoRow.holds Try.pinned (OpenSpec.upto frameValidSpec)

end Rows
end Go.Proofs.Ytbcleifhadkecaa
