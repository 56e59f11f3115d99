/-
  DERIVED. GIVEN WITH THE SEED: THE CARDS: each row of YtfhgcpmadajbdaaGreatDoorRows.lean that lists a variable, with what it lists TIED to the program's text (the seventh form; the later family's looks); each row that meets fmt, with fmt's text TOLD by the authors' own Lean function (tested against real Go, not proved from fmt's source: count such statements apart). THE CARD IS WHAT COUNTS. Prove the row's statement (the work); the ties are given (YtfhgcpmadajbdaaGreatDoorTie.lean); close each card by the builder's one call (the guide's Derived/Test/ToyasCard.lean, 'card_holds'). Laid BY PROGRAM, IN A SANDBOX (cutbox-door.mjs). By AI agents, Wed Nov 11 2026. No macro, syntax, notation, axiom, sorry.
-/
import Derived.Test.YtfhgcpmadajbdaaGreatDoorRows
import GoSem.ClaimSeven
namespace Go.Proofs.YtfhgcpmadajbdaaGreatDoor
namespace Rows

/-- THE TIED CARD OF 'provostlaw14.MoneyNames'. -/
def moneyNamesCard : Claim7 := { stood := { row := moneyNamesRow, standIns := [], harness := (true, "c4996739add96bde55522aed4f88d18a9fb95210640973cf66f7f7133047f07e"), looks := true }, kinds := [], alts := [], laidByText := true, laidKinds := [.data, .data, .data, .data, .sentinel, .sentinel, .pinned], laidTests := true, laidLooks := .later }
def MoneyNamesCardSaid : Prop := Claim7.holds Tryz.pinned (.plain (OpenSpec.ofChange moneyNamesSpec)) moneyNamesCard

/-- THE SECOND FORM's CARD OF 'provostlaw14.MoneyNames'. -/
def moneyNamesUptoCard : Claim7 := { stood := { row := moneyNamesUptoRow, standIns := [], harness := (true, "c4996739add96bde55522aed4f88d18a9fb95210640973cf66f7f7133047f07e"), looks := true }, kinds := [], alts := [], laidByText := true, laidKinds := [.data, .data, .data, .data, .sentinel, .sentinel, .pinned], laidTests := true, laidLooks := .later }
def MoneyNamesUptoCardSaid : Prop := Claim7.holds Tryz.pinned (.plain (OpenSpec.upto moneyNamesSpec)) moneyNamesUptoCard
end Rows
end Go.Proofs.YtfhgcpmadajbdaaGreatDoor
