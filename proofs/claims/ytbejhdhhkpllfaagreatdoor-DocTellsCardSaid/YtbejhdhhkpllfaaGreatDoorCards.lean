/-
  DERIVED. GIVEN WITH THE SEED: THE CARDS: each row of YtbejhdhhkpllfaaGreatDoorRows.lean that lists a variable, with what it lists TIED to the program's text (the seventh form; the later family's looks); each row that meets fmt, with fmt's text TOLD by the authors' own Lean function (tested against real Go, not proved from fmt's source: count such statements apart). THE CARD IS WHAT COUNTS. Prove the row's statement (the work); the ties are given (YtbejhdhhkpllfaaGreatDoorTie.lean); close each card by the builder's one call (the guide's Derived/Test/ToyasCard.lean, 'card_holds'). Laid BY PROGRAM, IN A SANDBOX (cutbox-door.mjs). By AI agents, Wed Nov 11 2026. No macro, syntax, notation, axiom, sorry.
-/
import Derived.Test.YtbejhdhhkpllfaaGreatDoorRows
import GoSem.ClaimSeven
namespace Go.Proofs.YtbejhdhhkpllfaaGreatDoor
namespace Rows

/-- THE TIED CARD OF 'provostlaw19.DocTells'. -/
def docTellsCard : Claim7 := { stood := { row := docTellsRow, standIns := [], harness := (true, "d8d8eb5edac8638dc5e9128e4bb2da62d8889df33c42f82d10b110d3d2c8a46a"), looks := false }, kinds := [], alts := [], laidByText := true, laidKinds := [.data, .data, .data, .data, .pinned], laidTests := true, laidLooks := .later }
def DocTellsCardSaid : Prop := Claim7.holds Tryz.pinned (.plain (OpenSpec.ofChange docTellsSpec)) docTellsCard

/-- THE SECOND FORM's CARD OF 'provostlaw19.DocTells'. -/
def docTellsUptoCard : Claim7 := { stood := { row := docTellsUptoRow, standIns := [], harness := (true, "d8d8eb5edac8638dc5e9128e4bb2da62d8889df33c42f82d10b110d3d2c8a46a"), looks := false }, kinds := [], alts := [], laidByText := true, laidKinds := [.data, .data, .data, .data, .pinned], laidTests := true, laidLooks := .later }
def DocTellsUptoCardSaid : Prop := Claim7.holds Tryz.pinned (.plain (OpenSpec.upto docTellsSpec)) docTellsUptoCard
end Rows
end Go.Proofs.YtbejhdhhkpllfaaGreatDoor
