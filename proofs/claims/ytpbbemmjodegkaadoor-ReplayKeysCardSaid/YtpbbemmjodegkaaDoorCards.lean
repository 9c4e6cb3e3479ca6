/-
  DERIVED. GIVEN WITH THE SEED: THE CARDS: each row of YtpbbemmjodegkaaDoorRows.lean that lists a variable, with what it lists TIED to the program's text (the seventh form; the later family's looks); each row that meets fmt, with fmt's text TOLD by the authors' own Lean function (tested against real Go, not proved from fmt's source: count such statements apart). THE CARD IS WHAT COUNTS. Prove the row's statement (the work); the ties are given (YtpbbemmjodegkaaDoorTie.lean); close each card by the builder's one call (the guide's Derived/Test/ToyasCard.lean, 'card_holds'). Laid BY PROGRAM, IN A SANDBOX (cutbox-door.mjs). By AI agents, Wed Nov 11 2026. No macro, syntax, notation, axiom, sorry.
-/
import Derived.Test.YtpbbemmjodegkaaDoorRows
import GoSem.ClaimSeven
namespace Go.Proofs.YtpbbemmjodegkaaDoor
namespace Rows

/-- THE TIED CARD OF 'zeitnotlaw47.ReplayKeys'. -/
def replayKeysCard : Claim7 := { stood := { row := replayKeysRow, standIns := [], harness := (true, "9c8190de9ed720c5ebdb367ae3fdbd18668df757e84c67a99ff0843ad38178a0"), looks := false }, kinds := [], alts := [], laidByText := true, laidKinds := [.data, .pinned], laidTests := true, laidLooks := .later }
def ReplayKeysCardSaid : Prop := Claim7.holds Tryd.pinned (.plain (OpenSpec.ofChange replayKeysSpec)) replayKeysCard

/-- THE SECOND FORM's CARD OF 'zeitnotlaw47.ReplayKeys'. -/
def replayKeysUptoCard : Claim7 := { stood := { row := replayKeysUptoRow, standIns := [], harness := (true, "9c8190de9ed720c5ebdb367ae3fdbd18668df757e84c67a99ff0843ad38178a0"), looks := false }, kinds := [], alts := [], laidByText := true, laidKinds := [.data, .pinned], laidTests := true, laidLooks := .later }
def ReplayKeysUptoCardSaid : Prop := Claim7.holds Tryd.pinned (.plain (OpenSpec.upto replayKeysSpec)) replayKeysUptoCard
end Rows
end Go.Proofs.YtpbbemmjodegkaaDoor
