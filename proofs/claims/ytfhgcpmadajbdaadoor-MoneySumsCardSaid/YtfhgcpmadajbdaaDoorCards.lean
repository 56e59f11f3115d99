/-
  DERIVED. GIVEN WITH THE SEED: THE CARDS: each row of YtfhgcpmadajbdaaDoorRows.lean that lists a variable, with what it lists TIED to the program's text (the seventh form; the later family's looks); each row that meets fmt, with fmt's text TOLD by the authors' own Lean function (tested against real Go, not proved from fmt's source: count such statements apart). THE CARD IS WHAT COUNTS. Prove the row's statement (the work); the ties are given (YtfhgcpmadajbdaaDoorTie.lean); close each card by the builder's one call (the guide's Derived/Test/ToyasCard.lean, 'card_holds'). Laid BY PROGRAM, IN A SANDBOX (cutbox-door.mjs). By AI agents, Wed Nov 11 2026. No macro, syntax, notation, axiom, sorry.
-/
import Derived.Test.YtfhgcpmadajbdaaDoorRows
import GoSem.ClaimSeven
namespace Go.Proofs.YtfhgcpmadajbdaaDoor
namespace Rows

/-- THE TIED CARD OF 'provostlaw14.MoneyDoes'. -/
def moneyDoesCard : Claim7 := { stood := { row := moneyDoesRow, standIns := [], harness := (true, "1a15e5d3ae0deb85bce939f069f2512fbe526bc0b8c5e903cf4d4abccea5c075"), looks := true }, kinds := [], alts := [], laidByText := true, laidKinds := [.data, .data, .data], laidTests := true, laidLooks := .later }
def MoneyDoesCardSaid : Prop := Claim7.holds Tryd.pinned (.plain (OpenSpec.ofChange moneyDoesSpec)) moneyDoesCard

/-- THE TIED CARD OF 'provostlaw14.MoneyReads'. -/
def moneyReadsCard : Claim7 := { stood := { row := moneyReadsRow, standIns := [], harness := (true, "1a15e5d3ae0deb85bce939f069f2512fbe526bc0b8c5e903cf4d4abccea5c075"), looks := true }, kinds := [], alts := [], laidByText := true, laidKinds := [.data, .data, .data, .data, .sentinel, .sentinel, .pinned], laidTests := true, laidLooks := .later }
def MoneyReadsCardSaid : Prop := Claim7.holds Tryd.pinned (.plain (OpenSpec.ofChange moneyReadsSpec)) moneyReadsCard

/-- THE TIED CARD OF 'provostlaw14.MoneyOrder'. -/
def moneyOrderCard : Claim7 := { stood := { row := moneyOrderRow, standIns := [], harness := (true, "1a15e5d3ae0deb85bce939f069f2512fbe526bc0b8c5e903cf4d4abccea5c075"), looks := true }, kinds := [], alts := [], laidByText := true, laidKinds := [.data, .data, .data, .data, .sentinel, .sentinel, .pinned], laidTests := true, laidLooks := .later }
def MoneyOrderCardSaid : Prop := Claim7.holds Tryd.pinned (.plain (OpenSpec.ofChange moneyOrderSpec)) moneyOrderCard

/-- THE TIED CARD OF 'provostlaw14.MoneyBack'. -/
def moneyBackCard : Claim7 := { stood := { row := moneyBackRow, standIns := [], harness := (true, "1a15e5d3ae0deb85bce939f069f2512fbe526bc0b8c5e903cf4d4abccea5c075"), looks := true }, kinds := [], alts := [], laidByText := true, laidKinds := [.data, .data, .data, .data, .sentinel, .sentinel, .pinned], laidTests := true, laidLooks := .later }
def MoneyBackCardSaid : Prop := Claim7.holds Tryd.pinned (.plain (OpenSpec.ofChange moneyBackSpec)) moneyBackCard

/-- THE TIED CARD OF 'provostlaw14.MoneyNoughts'. -/
def moneyNoughtsCard : Claim7 := { stood := { row := moneyNoughtsRow, standIns := [], harness := (true, "1a15e5d3ae0deb85bce939f069f2512fbe526bc0b8c5e903cf4d4abccea5c075"), looks := true }, kinds := [], alts := [], laidByText := true, laidKinds := [.data, .data, .data, .data, .sentinel, .sentinel, .pinned], laidTests := true, laidLooks := .later }
def MoneyNoughtsCardSaid : Prop := Claim7.holds Tryd.pinned (.plain (OpenSpec.ofChange moneyNoughtsSpec)) moneyNoughtsCard

/-- THE TIED CARD OF 'provostlaw14.MoneySums'. -/
def moneySumsCard : Claim7 := { stood := { row := moneySumsRow, standIns := [], harness := (true, "1a15e5d3ae0deb85bce939f069f2512fbe526bc0b8c5e903cf4d4abccea5c075"), looks := true }, kinds := [], alts := [], laidByText := true, laidKinds := [.data, .data, .data, .data, .sentinel, .sentinel, .pinned], laidTests := true, laidLooks := .later }
def MoneySumsCardSaid : Prop := Claim7.holds Tryd.pinned (.plain (OpenSpec.ofChange moneySumsSpec)) moneySumsCard

/-- THE SECOND FORM's CARD OF 'provostlaw14.MoneyDoes'. -/
def moneyDoesUptoCard : Claim7 := { stood := { row := moneyDoesUptoRow, standIns := [], harness := (true, "1a15e5d3ae0deb85bce939f069f2512fbe526bc0b8c5e903cf4d4abccea5c075"), looks := true }, kinds := [], alts := [], laidByText := true, laidKinds := [.data, .data, .data], laidTests := true, laidLooks := .later }
def MoneyDoesUptoCardSaid : Prop := Claim7.holds Tryd.pinned (.plain (OpenSpec.upto moneyDoesSpec)) moneyDoesUptoCard

/-- THE SECOND FORM's CARD OF 'provostlaw14.MoneyReads'. -/
def moneyReadsUptoCard : Claim7 := { stood := { row := moneyReadsUptoRow, standIns := [], harness := (true, "1a15e5d3ae0deb85bce939f069f2512fbe526bc0b8c5e903cf4d4abccea5c075"), looks := true }, kinds := [], alts := [], laidByText := true, laidKinds := [.data, .data, .data, .data, .sentinel, .sentinel, .pinned], laidTests := true, laidLooks := .later }
def MoneyReadsUptoCardSaid : Prop := Claim7.holds Tryd.pinned (.plain (OpenSpec.upto moneyReadsSpec)) moneyReadsUptoCard

/-- THE SECOND FORM's CARD OF 'provostlaw14.MoneyOrder'. -/
def moneyOrderUptoCard : Claim7 := { stood := { row := moneyOrderUptoRow, standIns := [], harness := (true, "1a15e5d3ae0deb85bce939f069f2512fbe526bc0b8c5e903cf4d4abccea5c075"), looks := true }, kinds := [], alts := [], laidByText := true, laidKinds := [.data, .data, .data, .data, .sentinel, .sentinel, .pinned], laidTests := true, laidLooks := .later }
def MoneyOrderUptoCardSaid : Prop := Claim7.holds Tryd.pinned (.plain (OpenSpec.upto moneyOrderSpec)) moneyOrderUptoCard

/-- THE SECOND FORM's CARD OF 'provostlaw14.MoneyBack'. -/
def moneyBackUptoCard : Claim7 := { stood := { row := moneyBackUptoRow, standIns := [], harness := (true, "1a15e5d3ae0deb85bce939f069f2512fbe526bc0b8c5e903cf4d4abccea5c075"), looks := true }, kinds := [], alts := [], laidByText := true, laidKinds := [.data, .data, .data, .data, .sentinel, .sentinel, .pinned], laidTests := true, laidLooks := .later }
def MoneyBackUptoCardSaid : Prop := Claim7.holds Tryd.pinned (.plain (OpenSpec.upto moneyBackSpec)) moneyBackUptoCard

/-- THE SECOND FORM's CARD OF 'provostlaw14.MoneyNoughts'. -/
def moneyNoughtsUptoCard : Claim7 := { stood := { row := moneyNoughtsUptoRow, standIns := [], harness := (true, "1a15e5d3ae0deb85bce939f069f2512fbe526bc0b8c5e903cf4d4abccea5c075"), looks := true }, kinds := [], alts := [], laidByText := true, laidKinds := [.data, .data, .data, .data, .sentinel, .sentinel, .pinned], laidTests := true, laidLooks := .later }
def MoneyNoughtsUptoCardSaid : Prop := Claim7.holds Tryd.pinned (.plain (OpenSpec.upto moneyNoughtsSpec)) moneyNoughtsUptoCard

/-- THE SECOND FORM's CARD OF 'provostlaw14.MoneySums'. -/
def moneySumsUptoCard : Claim7 := { stood := { row := moneySumsUptoRow, standIns := [], harness := (true, "1a15e5d3ae0deb85bce939f069f2512fbe526bc0b8c5e903cf4d4abccea5c075"), looks := true }, kinds := [], alts := [], laidByText := true, laidKinds := [.data, .data, .data, .data, .sentinel, .sentinel, .pinned], laidTests := true, laidLooks := .later }
def MoneySumsUptoCardSaid : Prop := Claim7.holds Tryd.pinned (.plain (OpenSpec.upto moneySumsSpec)) moneySumsUptoCard
end Rows
end Go.Proofs.YtfhgcpmadajbdaaDoor
