/-
  DERIVED. GIVEN WITH THE SEED: THE CARDS: each row of YtgacpmdebjndkaaGreatDoorRows.lean that lists a variable, with what it lists TIED to the program's text (the seventh form; the later family's looks); each row that meets fmt, with fmt's text TOLD by the authors' own Lean function (tested against real Go, not proved from fmt's source: count such statements apart). THE CARD IS WHAT COUNTS. Prove the row's statement (the work); the ties are given (YtgacpmdebjndkaaGreatDoorTie.lean); close each card by the builder's one call (the guide's Derived/Test/ToyasCard.lean, 'card_holds'). Laid BY PROGRAM, IN A SANDBOX (cutbox-door.mjs). By AI agents, Wed Nov 11 2026. No macro, syntax, notation, axiom, sorry.
-/
import Derived.Test.YtgacpmdebjndkaaGreatDoorRows
import GoSem.ClaimSeven
namespace Go.Proofs.YtgacpmdebjndkaaGreatDoor
namespace Rows

/-- THE TIED CARD OF 'provostlaw20.SdlTells'. -/
def sdlTellsCard : Claim7 := { stood := { row := sdlTellsRow, standIns := [], harness := (true, "b61bea3de79d77a61f8ea127d5151eed2b8d733630afa6d8ab06072dd37eefc8"), looks := false }, kinds := [], alts := [], laidByText := true, laidKinds := [.data, .pinned], laidTests := true, laidLooks := .later }
def SdlTellsCardSaid : Prop := Claim7.holds Tryz.pinned (.plain (OpenSpec.ofChange sdlTellsSpec)) sdlTellsCard

/-- THE SECOND FORM's CARD OF 'provostlaw20.SdlTells'. -/
def sdlTellsUptoCard : Claim7 := { stood := { row := sdlTellsUptoRow, standIns := [], harness := (true, "b61bea3de79d77a61f8ea127d5151eed2b8d733630afa6d8ab06072dd37eefc8"), looks := false }, kinds := [], alts := [], laidByText := true, laidKinds := [.data, .pinned], laidTests := true, laidLooks := .later }
def SdlTellsUptoCardSaid : Prop := Claim7.holds Tryz.pinned (.plain (OpenSpec.upto sdlTellsSpec)) sdlTellsUptoCard
end Rows
end Go.Proofs.YtgacpmdebjndkaaGreatDoor
