/-
  DERIVED. GIVEN WITH THE SEED: THE CARDS: each row of YtgljbhbpjobnbaaDoorRows.lean that lists a variable, with what it lists TIED to the program's text (the seventh form; the later family's looks); each row that meets fmt, with fmt's text TOLD by the authors' own Lean function (tested against real Go, not proved from fmt's source: count such statements apart). THE CARD IS WHAT COUNTS. Prove the row's statement (the work); the ties are given (YtgljbhbpjobnbaaDoorTie.lean); close each card by the builder's one call (the guide's Derived/Test/ToyasCard.lean, 'card_holds'). Laid BY PROGRAM, IN A SANDBOX (cutbox-door.mjs). By AI agents, Wed Nov 11 2026. No macro, syntax, notation, axiom, sorry.
-/
import Derived.Test.YtgljbhbpjobnbaaDoorRows
import GoSem.ClaimSeven
namespace Go.Proofs.YtgljbhbpjobnbaaDoor
namespace Rows

/-- THE TIED CARD OF 'provostlaw14.MoneyDoes'. -/
def moneyDoesCard : Claim7 := { stood := { row := moneyDoesRow, standIns := [], harness := (true, "a2f57bcf97a8e8e873c46d8da4127932654ae77bc2c2800b42deb602efc279ba"), looks := true }, kinds := [], alts := [], laidByText := true, laidKinds := [.data, .data, .data], laidTests := true, laidLooks := .later }
def MoneyDoesCardSaid : Prop := Claim7.holds Tryd.pinned (.plain (OpenSpec.ofChange moneyDoesSpec)) moneyDoesCard

/-- THE SECOND FORM's CARD OF 'provostlaw14.MoneyDoes'. -/
def moneyDoesUptoCard : Claim7 := { stood := { row := moneyDoesUptoRow, standIns := [], harness := (true, "a2f57bcf97a8e8e873c46d8da4127932654ae77bc2c2800b42deb602efc279ba"), looks := true }, kinds := [], alts := [], laidByText := true, laidKinds := [.data, .data, .data], laidTests := true, laidLooks := .later }
def MoneyDoesUptoCardSaid : Prop := Claim7.holds Tryd.pinned (.plain (OpenSpec.upto moneyDoesSpec)) moneyDoesUptoCard
end Rows
end Go.Proofs.YtgljbhbpjobnbaaDoor
