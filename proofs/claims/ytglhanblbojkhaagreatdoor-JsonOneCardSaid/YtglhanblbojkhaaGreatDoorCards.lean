/-
  DERIVED. GIVEN WITH THE SEED: THE CARDS: each row of YtglhanblbojkhaaGreatDoorRows.lean that lists a variable, with what it lists TIED to the program's text (the seventh form; the later family's looks); each row that meets fmt, with fmt's text TOLD by the authors' own Lean function (tested against real Go, not proved from fmt's source: count such statements apart). THE CARD IS WHAT COUNTS. Prove the row's statement (the work); the ties are given (YtglhanblbojkhaaGreatDoorTie.lean); close each card by the builder's one call (the guide's Derived/Test/ToyasCard.lean, 'card_holds'). Laid BY PROGRAM, IN A SANDBOX (cutbox-door.mjs). By AI agents, Wed Nov 11 2026. No macro, syntax, notation, axiom, sorry.
-/
import Derived.Test.YtglhanblbojkhaaGreatDoorRows
import GoSem.ClaimSeven
namespace Go.Proofs.YtglhanblbojkhaaGreatDoor
namespace Rows

/-- THE TIED CARD OF 'provostlaw04.JsonReads'. -/
def jsonReadsCard : Claim7 := { stood := { row := jsonReadsRow, standIns := [], harness := (true, "e9d7d9c478979d71c7ce27b2e14fa5a04fdf46418776dd2f455e37cd85ab7400"), looks := true }, kinds := [], alts := [], laidByText := true, laidKinds := [.data, .data, .data, .data, .sentinel, .sentinel, .pinned], laidTests := true, laidLooks := .later }
def JsonReadsCardSaid : Prop := Claim7.holds Tryz.pinned (.plain (OpenSpec.ofChange jsonReadsSpec)) jsonReadsCard

/-- THE TIED CARD OF 'provostlaw04.JsonBack'. -/
def jsonBackCard : Claim7 := { stood := { row := jsonBackRow, standIns := [], harness := (true, "e9d7d9c478979d71c7ce27b2e14fa5a04fdf46418776dd2f455e37cd85ab7400"), looks := true }, kinds := [], alts := [], laidByText := true, laidKinds := [.data, .data, .data, .data, .sentinel, .sentinel, .pinned], laidTests := true, laidLooks := .later }
def JsonBackCardSaid : Prop := Claim7.holds Tryz.pinned (.plain (OpenSpec.ofChange jsonBackSpec)) jsonBackCard

/-- THE TIED CARD OF 'provostlaw04.JsonOne'. -/
def jsonOneCard : Claim7 := { stood := { row := jsonOneRow, standIns := [], harness := (true, "e9d7d9c478979d71c7ce27b2e14fa5a04fdf46418776dd2f455e37cd85ab7400"), looks := true }, kinds := [], alts := [], laidByText := true, laidKinds := [.data, .data, .data, .data, .sentinel, .sentinel, .pinned], laidTests := true, laidLooks := .later }
def JsonOneCardSaid : Prop := Claim7.holds Tryz.pinned (.plain (OpenSpec.ofChange jsonOneSpec)) jsonOneCard

/-- THE TIED CARD OF 'provostlaw04.JsonCuts'. -/
def jsonCutsCard : Claim7 := { stood := { row := jsonCutsRow, standIns := [], harness := (true, "e9d7d9c478979d71c7ce27b2e14fa5a04fdf46418776dd2f455e37cd85ab7400"), looks := true }, kinds := [], alts := [], laidByText := true, laidKinds := [.data, .data, .data, .data, .sentinel, .sentinel, .pinned], laidTests := true, laidLooks := .later }
def JsonCutsCardSaid : Prop := Claim7.holds Tryz.pinned (.plain (OpenSpec.ofChange jsonCutsSpec)) jsonCutsCard

/-- THE TIED CARD OF 'provostlaw04.JsonNames'. -/
def jsonNamesCard : Claim7 := { stood := { row := jsonNamesRow, standIns := [], harness := (true, "e9d7d9c478979d71c7ce27b2e14fa5a04fdf46418776dd2f455e37cd85ab7400"), looks := true }, kinds := [], alts := [], laidByText := true, laidKinds := [.data, .data, .data, .data, .sentinel, .sentinel, .pinned], laidTests := true, laidLooks := .later }
def JsonNamesCardSaid : Prop := Claim7.holds Tryz.pinned (.plain (OpenSpec.ofChange jsonNamesSpec)) jsonNamesCard

/-- THE SECOND FORM's CARD OF 'provostlaw04.JsonReads'. -/
def jsonReadsUptoCard : Claim7 := { stood := { row := jsonReadsUptoRow, standIns := [], harness := (true, "e9d7d9c478979d71c7ce27b2e14fa5a04fdf46418776dd2f455e37cd85ab7400"), looks := true }, kinds := [], alts := [], laidByText := true, laidKinds := [.data, .data, .data, .data, .sentinel, .sentinel, .pinned], laidTests := true, laidLooks := .later }
def JsonReadsUptoCardSaid : Prop := Claim7.holds Tryz.pinned (.plain (OpenSpec.upto jsonReadsSpec)) jsonReadsUptoCard

/-- THE SECOND FORM's CARD OF 'provostlaw04.JsonBack'. -/
def jsonBackUptoCard : Claim7 := { stood := { row := jsonBackUptoRow, standIns := [], harness := (true, "e9d7d9c478979d71c7ce27b2e14fa5a04fdf46418776dd2f455e37cd85ab7400"), looks := true }, kinds := [], alts := [], laidByText := true, laidKinds := [.data, .data, .data, .data, .sentinel, .sentinel, .pinned], laidTests := true, laidLooks := .later }
def JsonBackUptoCardSaid : Prop := Claim7.holds Tryz.pinned (.plain (OpenSpec.upto jsonBackSpec)) jsonBackUptoCard

/-- THE SECOND FORM's CARD OF 'provostlaw04.JsonOne'. -/
def jsonOneUptoCard : Claim7 := { stood := { row := jsonOneUptoRow, standIns := [], harness := (true, "e9d7d9c478979d71c7ce27b2e14fa5a04fdf46418776dd2f455e37cd85ab7400"), looks := true }, kinds := [], alts := [], laidByText := true, laidKinds := [.data, .data, .data, .data, .sentinel, .sentinel, .pinned], laidTests := true, laidLooks := .later }
def JsonOneUptoCardSaid : Prop := Claim7.holds Tryz.pinned (.plain (OpenSpec.upto jsonOneSpec)) jsonOneUptoCard

/-- THE SECOND FORM's CARD OF 'provostlaw04.JsonCuts'. -/
def jsonCutsUptoCard : Claim7 := { stood := { row := jsonCutsUptoRow, standIns := [], harness := (true, "e9d7d9c478979d71c7ce27b2e14fa5a04fdf46418776dd2f455e37cd85ab7400"), looks := true }, kinds := [], alts := [], laidByText := true, laidKinds := [.data, .data, .data, .data, .sentinel, .sentinel, .pinned], laidTests := true, laidLooks := .later }
def JsonCutsUptoCardSaid : Prop := Claim7.holds Tryz.pinned (.plain (OpenSpec.upto jsonCutsSpec)) jsonCutsUptoCard

/-- THE SECOND FORM's CARD OF 'provostlaw04.JsonNames'. -/
def jsonNamesUptoCard : Claim7 := { stood := { row := jsonNamesUptoRow, standIns := [], harness := (true, "e9d7d9c478979d71c7ce27b2e14fa5a04fdf46418776dd2f455e37cd85ab7400"), looks := true }, kinds := [], alts := [], laidByText := true, laidKinds := [.data, .data, .data, .data, .sentinel, .sentinel, .pinned], laidTests := true, laidLooks := .later }
def JsonNamesUptoCardSaid : Prop := Claim7.holds Tryz.pinned (.plain (OpenSpec.upto jsonNamesSpec)) jsonNamesUptoCard
end Rows
end Go.Proofs.YtglhanblbojkhaaGreatDoor
