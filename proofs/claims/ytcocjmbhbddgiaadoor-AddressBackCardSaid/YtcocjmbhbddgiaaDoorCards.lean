/-
  DERIVED. GIVEN WITH THE SEED: THE CARDS: each row of YtcocjmbhbddgiaaDoorRows.lean that lists a variable, with what it lists TIED to the program's text (the seventh form; the later family's looks); each row that meets fmt, with fmt's text TOLD by the authors' own Lean function (tested against real Go, not proved from fmt's source: count such statements apart). THE CARD IS WHAT COUNTS. Prove the row's statement (the work); the ties are given (YtcocjmbhbddgiaaDoorTie.lean); close each card by the builder's one call (the guide's Derived/Test/ToyasCard.lean, 'card_holds'). Laid BY PROGRAM, IN A SANDBOX (cutbox-door.mjs). By AI agents, Wed Nov 11 2026. No macro, syntax, notation, axiom, sorry.
-/
import Derived.Test.YtcocjmbhbddgiaaDoorRows
import GoSem.ClaimSeven
namespace Go.Proofs.YtcocjmbhbddgiaaDoor
namespace Rows

/-- THE TIED CARD OF 'provostlaw15.AddressTells'. -/
def addressTellsCard : Claim7 := { stood := { row := addressTellsRow, standIns := [], harness := (true, "9dd3ab5109814ccf5c2aa4516d7241d59c909fc7e165884f4a22ffbebe08eb7c"), looks := true }, kinds := [], alts := [], laidByText := true, laidKinds := [.data, .data, .data, .data, .sentinel, .sentinel, .pinned], laidTests := true, laidLooks := .later }
def AddressTellsCardSaid : Prop := Claim7.holds Tryd.pinned (.plain (OpenSpec.ofChange addressTellsSpec)) addressTellsCard

/-- THE TIED CARD OF 'provostlaw15.AddressNames'. -/
def addressNamesCard : Claim7 := { stood := { row := addressNamesRow, standIns := [], harness := (true, "9dd3ab5109814ccf5c2aa4516d7241d59c909fc7e165884f4a22ffbebe08eb7c"), looks := true }, kinds := [], alts := [], laidByText := true, laidKinds := [.data, .data, .data, .data, .sentinel, .sentinel, .pinned, .pinned], laidTests := true, laidLooks := .later }
def AddressNamesCardSaid : Prop := Claim7.holds Tryd.pinned (.plain (OpenSpec.ofChange addressNamesSpec)) addressNamesCard

/-- THE TIED CARD OF 'provostlaw15.AddressBack'. -/
def addressBackCard : Claim7 := { stood := { row := addressBackRow, standIns := [], harness := (true, "9dd3ab5109814ccf5c2aa4516d7241d59c909fc7e165884f4a22ffbebe08eb7c"), looks := true }, kinds := [], alts := [], laidByText := true, laidKinds := [.data, .data, .data, .data, .sentinel, .sentinel, .pinned, .pinned], laidTests := true, laidLooks := .later }
def AddressBackCardSaid : Prop := Claim7.holds Tryd.pinned (.plain (OpenSpec.ofChange addressBackSpec)) addressBackCard

/-- THE SECOND FORM's CARD OF 'provostlaw15.AddressTells'. -/
def addressTellsUptoCard : Claim7 := { stood := { row := addressTellsUptoRow, standIns := [], harness := (true, "9dd3ab5109814ccf5c2aa4516d7241d59c909fc7e165884f4a22ffbebe08eb7c"), looks := true }, kinds := [], alts := [], laidByText := true, laidKinds := [.data, .data, .data, .data, .sentinel, .sentinel, .pinned], laidTests := true, laidLooks := .later }
def AddressTellsUptoCardSaid : Prop := Claim7.holds Tryd.pinned (.plain (OpenSpec.upto addressTellsSpec)) addressTellsUptoCard

/-- THE SECOND FORM's CARD OF 'provostlaw15.AddressNames'. -/
def addressNamesUptoCard : Claim7 := { stood := { row := addressNamesUptoRow, standIns := [], harness := (true, "9dd3ab5109814ccf5c2aa4516d7241d59c909fc7e165884f4a22ffbebe08eb7c"), looks := true }, kinds := [], alts := [], laidByText := true, laidKinds := [.data, .data, .data, .data, .sentinel, .sentinel, .pinned, .pinned], laidTests := true, laidLooks := .later }
def AddressNamesUptoCardSaid : Prop := Claim7.holds Tryd.pinned (.plain (OpenSpec.upto addressNamesSpec)) addressNamesUptoCard

/-- THE SECOND FORM's CARD OF 'provostlaw15.AddressBack'. -/
def addressBackUptoCard : Claim7 := { stood := { row := addressBackUptoRow, standIns := [], harness := (true, "9dd3ab5109814ccf5c2aa4516d7241d59c909fc7e165884f4a22ffbebe08eb7c"), looks := true }, kinds := [], alts := [], laidByText := true, laidKinds := [.data, .data, .data, .data, .sentinel, .sentinel, .pinned, .pinned], laidTests := true, laidLooks := .later }
def AddressBackUptoCardSaid : Prop := Claim7.holds Tryd.pinned (.plain (OpenSpec.upto addressBackSpec)) addressBackUptoCard
end Rows
end Go.Proofs.YtcocjmbhbddgiaaDoor
