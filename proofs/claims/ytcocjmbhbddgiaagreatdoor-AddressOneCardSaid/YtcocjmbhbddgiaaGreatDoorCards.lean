/-
  DERIVED. GIVEN WITH THE SEED: THE CARDS: each row of YtcocjmbhbddgiaaGreatDoorRows.lean that lists a variable, with what it lists TIED to the program's text (the seventh form; the later family's looks); each row that meets fmt, with fmt's text TOLD by the authors' own Lean function (tested against real Go, not proved from fmt's source: count such statements apart). THE CARD IS WHAT COUNTS. Prove the row's statement (the work); the ties are given (YtcocjmbhbddgiaaGreatDoorTie.lean); close each card by the builder's one call (the guide's Derived/Test/ToyasCard.lean, 'card_holds'). Laid BY PROGRAM, IN A SANDBOX (cutbox-door.mjs). By AI agents, Wed Nov 11 2026. No macro, syntax, notation, axiom, sorry.
-/
import Derived.Test.YtcocjmbhbddgiaaGreatDoorRows
import GoSem.ClaimSeven
namespace Go.Proofs.YtcocjmbhbddgiaaGreatDoor
namespace Rows

/-- THE TIED CARD OF 'provostlaw15.AddressReads'. -/
def addressReadsCard : Claim7 := { stood := { row := addressReadsRow, standIns := [], harness := (true, "6cda3e438c11164f9b18ec82f31018053ab4049fa778be80506091116affa2a2"), looks := true }, kinds := [], alts := [], laidByText := true, laidKinds := [.data, .data, .data, .data, .sentinel, .sentinel, .pinned, .pinned], laidTests := true, laidLooks := .later }
def AddressReadsCardSaid : Prop := Claim7.holds Tryz.pinned (.plain (OpenSpec.ofChange addressReadsSpec)) addressReadsCard

/-- THE TIED CARD OF 'provostlaw15.AddressOne'. -/
def addressOneCard : Claim7 := { stood := { row := addressOneRow, standIns := [], harness := (true, "6cda3e438c11164f9b18ec82f31018053ab4049fa778be80506091116affa2a2"), looks := true }, kinds := [], alts := [], laidByText := true, laidKinds := [.data, .data, .data, .data, .sentinel, .sentinel, .pinned, .pinned], laidTests := true, laidLooks := .later }
def AddressOneCardSaid : Prop := Claim7.holds Tryz.pinned (.plain (OpenSpec.ofChange addressOneSpec)) addressOneCard

/-- THE SECOND FORM's CARD OF 'provostlaw15.AddressReads'. -/
def addressReadsUptoCard : Claim7 := { stood := { row := addressReadsUptoRow, standIns := [], harness := (true, "6cda3e438c11164f9b18ec82f31018053ab4049fa778be80506091116affa2a2"), looks := true }, kinds := [], alts := [], laidByText := true, laidKinds := [.data, .data, .data, .data, .sentinel, .sentinel, .pinned, .pinned], laidTests := true, laidLooks := .later }
def AddressReadsUptoCardSaid : Prop := Claim7.holds Tryz.pinned (.plain (OpenSpec.upto addressReadsSpec)) addressReadsUptoCard

/-- THE SECOND FORM's CARD OF 'provostlaw15.AddressOne'. -/
def addressOneUptoCard : Claim7 := { stood := { row := addressOneUptoRow, standIns := [], harness := (true, "6cda3e438c11164f9b18ec82f31018053ab4049fa778be80506091116affa2a2"), looks := true }, kinds := [], alts := [], laidByText := true, laidKinds := [.data, .data, .data, .data, .sentinel, .sentinel, .pinned, .pinned], laidTests := true, laidLooks := .later }
def AddressOneUptoCardSaid : Prop := Claim7.holds Tryz.pinned (.plain (OpenSpec.upto addressOneSpec)) addressOneUptoCard
end Rows
end Go.Proofs.YtcocjmbhbddgiaaGreatDoor
