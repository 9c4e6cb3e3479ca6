/-
  DERIVED. GIVEN WITH THE SEED: THE CARDS: each row of YtpbbemmjodegkaaGreatDoorRows.lean that lists a variable, with what it lists TIED to the program's text (the seventh form; the later family's looks); each row that meets fmt, with fmt's text TOLD by the authors' own Lean function (tested against real Go, not proved from fmt's source: count such statements apart). THE CARD IS WHAT COUNTS. Prove the row's statement (the work); the ties are given (YtpbbemmjodegkaaGreatDoorTie.lean); close each card by the builder's one call (the guide's Derived/Test/ToyasCard.lean, 'card_holds'). Laid BY PROGRAM, IN A SANDBOX (cutbox-door.mjs). By AI agents, Wed Nov 11 2026. No macro, syntax, notation, axiom, sorry.
-/
import Derived.Test.YtpbbemmjodegkaaGreatDoorRows
import GoSem.ClaimSeven
namespace Go.Proofs.YtpbbemmjodegkaaGreatDoor
namespace Rows

/-- THE TIED CARD OF 'zeitnotlaw47.ReplayPlays'. -/
def replayPlaysCard : Claim7 := { stood := { row := replayPlaysRow, standIns := [], harness := (true, "b95f1bfbea23dfa14ababf86b05e8a324f33d8b9ea7317c2aab919f0105be86f"), looks := false }, kinds := [], alts := [], laidByText := true, laidKinds := [.data, .data, .data, .pinned], laidTests := true, laidLooks := .later }
def ReplayPlaysCardSaid : Prop := Claim7.holds Tryz.pinned (.plain (OpenSpec.ofChange replayPlaysSpec)) replayPlaysCard

/-- THE TIED CARD OF 'zeitnotlaw47.ReplayNone'. -/
def replayNoneCard : Claim7 := { stood := { row := replayNoneRow, standIns := [], harness := (true, "b95f1bfbea23dfa14ababf86b05e8a324f33d8b9ea7317c2aab919f0105be86f"), looks := false }, kinds := [], alts := [], laidByText := true, laidKinds := [.data, .data, .data, .pinned], laidTests := true, laidLooks := .later }
def ReplayNoneCardSaid : Prop := Claim7.holds Tryz.pinned (.plain (OpenSpec.ofChange replayNoneSpec)) replayNoneCard

/-- THE SECOND FORM's CARD OF 'zeitnotlaw47.ReplayPlays'. -/
def replayPlaysUptoCard : Claim7 := { stood := { row := replayPlaysUptoRow, standIns := [], harness := (true, "b95f1bfbea23dfa14ababf86b05e8a324f33d8b9ea7317c2aab919f0105be86f"), looks := false }, kinds := [], alts := [], laidByText := true, laidKinds := [.data, .data, .data, .pinned], laidTests := true, laidLooks := .later }
def ReplayPlaysUptoCardSaid : Prop := Claim7.holds Tryz.pinned (.plain (OpenSpec.upto replayPlaysSpec)) replayPlaysUptoCard

/-- THE SECOND FORM's CARD OF 'zeitnotlaw47.ReplayNone'. -/
def replayNoneUptoCard : Claim7 := { stood := { row := replayNoneUptoRow, standIns := [], harness := (true, "b95f1bfbea23dfa14ababf86b05e8a324f33d8b9ea7317c2aab919f0105be86f"), looks := false }, kinds := [], alts := [], laidByText := true, laidKinds := [.data, .data, .data, .pinned], laidTests := true, laidLooks := .later }
def ReplayNoneUptoCardSaid : Prop := Claim7.holds Tryz.pinned (.plain (OpenSpec.upto replayNoneSpec)) replayNoneUptoCard
end Rows
end Go.Proofs.YtpbbemmjodegkaaGreatDoor
