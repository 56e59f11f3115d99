/-
  DERIVED. GIVEN WITH THE SEED: THE CARDS: each row of YtpkkejcndmcbiaaGreatDoorRows.lean that lists a variable, with what it lists TIED to the program's text (the seventh form; the later family's looks); each row that meets fmt, with fmt's text TOLD by the authors' own Lean function (tested against real Go, not proved from fmt's source: count such statements apart). THE CARD IS WHAT COUNTS. Prove the row's statement (the work); the ties are given (YtpkkejcndmcbiaaGreatDoorTie.lean); close each card by the builder's one call (the guide's Derived/Test/ToyasCard.lean, 'card_holds'). Laid BY PROGRAM, IN A SANDBOX (cutbox-door.mjs). By AI agents, Wed Nov 11 2026. No macro, syntax, notation, axiom, sorry.
-/
import Derived.Test.YtpkkejcndmcbiaaGreatDoorRows
import GoSem.ClaimSeven
namespace Go.Proofs.YtpkkejcndmcbiaaGreatDoor
namespace Rows

/-- THE TIED CARD OF 'provostlaw16.ScalarNames'. -/
def scalarNamesCard : Claim7 := { stood := { row := scalarNamesRow, standIns := [], harness := (true, "5abaa6bcedbc78b14581339a8c8c0aea86f955f8d95086e5c69c053c3b1623c2"), looks := true }, kinds := [], alts := [], laidByText := true, laidKinds := [.data, .data, .data, .data, .sentinel, .sentinel, .pinned, .pinned], laidTests := true, laidLooks := .later }
def ScalarNamesCardSaid : Prop := Claim7.holds Tryz.pinned (.plain (OpenSpec.ofChange scalarNamesSpec)) scalarNamesCard

/-- THE SECOND FORM's CARD OF 'provostlaw16.ScalarNames'. -/
def scalarNamesUptoCard : Claim7 := { stood := { row := scalarNamesUptoRow, standIns := [], harness := (true, "5abaa6bcedbc78b14581339a8c8c0aea86f955f8d95086e5c69c053c3b1623c2"), looks := true }, kinds := [], alts := [], laidByText := true, laidKinds := [.data, .data, .data, .data, .sentinel, .sentinel, .pinned, .pinned], laidTests := true, laidLooks := .later }
def ScalarNamesUptoCardSaid : Prop := Claim7.holds Tryz.pinned (.plain (OpenSpec.upto scalarNamesSpec)) scalarNamesUptoCard
end Rows
end Go.Proofs.YtpkkejcndmcbiaaGreatDoor
