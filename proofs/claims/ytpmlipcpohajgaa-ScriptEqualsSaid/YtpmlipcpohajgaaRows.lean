/-
  No cell of these rows narrows 'for every input' (looked for: loops, veiled, ifaces, maps, wideKeys, modest, calm, conditions, laid).
  DERIVED. THE GIVEN ROWS OF THIS SEAT. 3 by the template 'for every input the law returns true; each argument reads behind the call as it read before'; 0 by the template 'total and deterministic' (their statements: YtpmlipcpohajgaaTotals.lean).
  GIVEN WITH THE SEED: the statements are not yours to turn. If you find one false, say at which input.
  Laid BY PROGRAM, IN A SANDBOX (cutbox-rows.mjs): the forced cells as the released guide's own fill.sh prints them over the translation e9a5881621781f8f… (all of the seat's roots in one cut). By AI agents, Wed Nov 11 2026. No macro, syntax, notation, axiom, sorry.
-/
import Derived.Test.YtpmlipcpohajgaaChecked
import GoSem.Claim
import GoSem.ClaimJoined
import GoSem.ClaimMapViews
import Derived.JoinedTies
import Derived.KernelRfl
namespace Go.Proofs.Ytpmlipcpohajgaa
/- THE CELL 'sum', in the pinned program and in every row, IS THE sha256 OF THE DUMP (.gsa) THAT YtpmlipcpohajgaaProg.lean LOADS. Nothing in Lean hashes anything: it is a label: what it is worth is what the hold of that sum in a sandbox is worth. -/
noncomputable def Try.pinned : Pinned := { name := "ytpmlipcpohajgaa", sum := "e9a5881621781f8ff7b0b62b61d23383f39de702041e13450a31a491ccf36e8a", checked := Try.checked }
namespace Rows
def none {H : Type} : Left H := { results := [], args := [] }

/-- 'zeitnotlaw34.ScriptParses': WHATEVER THE INPUT: true; the input reads as it did. -/
def scriptParsesSpec : ChangeSpec := { name := "scriptParses", fn := fun _ => fun
  | [d1, d2] => { results := [.lit (.bool true)], args := [d1, d2] }
  | _ => none }
def scriptParsesRow : OpenClaim := { program := "ytpmlipcpohajgaa", sum := "e9a5881621781f8ff7b0b62b61d23383f39de702041e13450a31a491ccf36e8a", func := "zeitnot/zeitnotlaw34.ScriptParses", spec := "scriptParses", unfollowed := true, recurses := true, apart := false }
def ScriptParsesSaid : Prop := scriptParsesRow.holds Try.pinned (OpenSpec.ofChange scriptParsesSpec)

/-- ITS FALSE NEIGHBOUR: 'it returns false'. Refute it at one input. -/
def scriptParsesWrong : ChangeSpec := { name := "scriptParses", fn := fun _ => fun
  | [d1, d2] => { results := [.lit (.bool false)], args := [d1, d2] }
  | _ => none }
def ScriptParsesWrongFalsely : Prop := scriptParsesRow.holds Try.pinned (OpenSpec.ofChange scriptParsesWrong)

/-- 'zeitnotlaw34.ScriptWrites': WHATEVER THE INPUT: true; the input reads as it did. -/
def scriptWritesSpec : ChangeSpec := { name := "scriptWrites", fn := fun _ => fun
  | [d] => { results := [.lit (.bool true)], args := [d] }
  | _ => none }
def scriptWritesRow : OpenClaim := { program := "ytpmlipcpohajgaa", sum := "e9a5881621781f8ff7b0b62b61d23383f39de702041e13450a31a491ccf36e8a", func := "zeitnot/zeitnotlaw34.ScriptWrites", spec := "scriptWrites", unfollowed := true, recurses := true, apart := false }
def ScriptWritesSaid : Prop := scriptWritesRow.holds Try.pinned (OpenSpec.ofChange scriptWritesSpec)

/-- ITS FALSE NEIGHBOUR: 'it returns false'. Refute it at one input. -/
def scriptWritesWrong : ChangeSpec := { name := "scriptWrites", fn := fun _ => fun
  | [d] => { results := [.lit (.bool false)], args := [d] }
  | _ => none }
def ScriptWritesWrongFalsely : Prop := scriptWritesRow.holds Try.pinned (OpenSpec.ofChange scriptWritesWrong)

/-- 'zeitnotlaw34.ScriptEquals': WHATEVER THE INPUT: true; the input reads as it did. -/
def scriptEqualsSpec : ChangeSpec := { name := "scriptEquals", fn := fun _ => fun
  | [d1, d2, d3, d4] => { results := [.lit (.bool true)], args := [d1, d2, d3, d4] }
  | _ => none }
def scriptEqualsRow : OpenClaim := { program := "ytpmlipcpohajgaa", sum := "e9a5881621781f8ff7b0b62b61d23383f39de702041e13450a31a491ccf36e8a", func := "zeitnot/zeitnotlaw34.ScriptEquals", spec := "scriptEquals", unfollowed := true, recurses := true, apart := false }
def ScriptEqualsSaid : Prop := scriptEqualsRow.holds Try.pinned (OpenSpec.ofChange scriptEqualsSpec)

/-- ITS FALSE NEIGHBOUR: 'it returns false'. Refute it at one input. -/
def scriptEqualsWrong : ChangeSpec := { name := "scriptEquals", fn := fun _ => fun
  | [d1, d2, d3, d4] => { results := [.lit (.bool false)], args := [d1, d2, d3, d4] }
  | _ => none }
def ScriptEqualsWrongFalsely : Prop := scriptEqualsRow.holds Try.pinned (OpenSpec.ofChange scriptEqualsWrong)

/- THE SECOND FORM. 'bulk': how many values and letters a reading holds, each counted each time it is reached (what is shared counts as often as it is met; a slice's spare places count too). A statement '..UptoSaid' is the law's where the arguments, and the package variables that the reading takes, are together of bulk at most 1048576: NARROWER than '..Said'. Prove '..Said' where nothing that the law and all that it calls make is longer than what came in: it says more and counts as full. Else prove '..UptoSaid'. A law counts once. -/
mutual
def uptoBulk {H : Type} : DataW H → Nat
  | .lit (.string bytes) => bytes.length + 1
  | .lit _ => 1
  | .nil => 1
  | .ptr d => uptoBulk d + 1
  | .slice elems spare => uptoBulkAll elems + uptoBulkAll spare + 1
  | .agg parts => uptoBulkAll parts + 1
  | .iface _ d => uptoBulk d + 1
  | .map entries => uptoBulkEntries entries + 1
  | .held _ => 1
def uptoBulkAll {H : Type} : List (DataW H) → Nat
  | [] => 0
  | d :: r => uptoBulk d + uptoBulkAll r
def uptoBulkEntries {H : Type} : List (Lit × DataW H) → Nat
  | [] => 0
  | x :: r => uptoBulkEntry x + uptoBulkEntries r
def uptoBulkEntry {H : Type} : Lit × DataW H → Nat
  | (.string bytes, d) => bytes.length + uptoBulk d + 1
  | (_, d) => uptoBulk d + 1
 end
def uptoSmall : (H : Type) → List (DataW H) → Bool := fun _ ds => decide (uptoBulkAll ds ≤ 1048576)
def OpenSpec.upto (s : _root_.Go.ChangeSpec) : _root_.Go.OpenSpec := { _root_.Go.OpenSpec.ofChange s with cond := some uptoSmall }

/-- 'zeitnotlaw34.ScriptParses', WHERE WHAT IT READS IS OF BULK AT MOST 1048576: true; the input reads as it did. -/
def scriptParsesUptoRow : OpenClaim := { program := "ytpmlipcpohajgaa", sum := "e9a5881621781f8ff7b0b62b61d23383f39de702041e13450a31a491ccf36e8a", func := "zeitnot/zeitnotlaw34.ScriptParses", spec := "scriptParses", unfollowed := true, recurses := true, apart := false, narrowed := true }
def ScriptParsesUptoSaid : Prop := scriptParsesUptoRow.holds Try.pinned (OpenSpec.upto scriptParsesSpec)

/-- 'zeitnotlaw34.ScriptWrites', WHERE WHAT IT READS IS OF BULK AT MOST 1048576: true; the input reads as it did. -/
def scriptWritesUptoRow : OpenClaim := { program := "ytpmlipcpohajgaa", sum := "e9a5881621781f8ff7b0b62b61d23383f39de702041e13450a31a491ccf36e8a", func := "zeitnot/zeitnotlaw34.ScriptWrites", spec := "scriptWrites", unfollowed := true, recurses := true, apart := false, narrowed := true }
def ScriptWritesUptoSaid : Prop := scriptWritesUptoRow.holds Try.pinned (OpenSpec.upto scriptWritesSpec)

/-- 'zeitnotlaw34.ScriptEquals', WHERE WHAT IT READS IS OF BULK AT MOST 1048576: true; the input reads as it did. -/
def scriptEqualsUptoRow : OpenClaim := { program := "ytpmlipcpohajgaa", sum := "e9a5881621781f8ff7b0b62b61d23383f39de702041e13450a31a491ccf36e8a", func := "zeitnot/zeitnotlaw34.ScriptEquals", spec := "scriptEquals", unfollowed := true, recurses := true, apart := false, narrowed := true }
def ScriptEqualsUptoSaid : Prop := scriptEqualsUptoRow.holds Try.pinned (OpenSpec.upto scriptEqualsSpec)

end Rows
end Go.Proofs.Ytpmlipcpohajgaa
