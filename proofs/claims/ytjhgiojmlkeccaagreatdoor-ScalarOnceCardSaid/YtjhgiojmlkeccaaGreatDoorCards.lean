/-
  DERIVED. GIVEN WITH THE SEED: THE CARDS: each row of YtjhgiojmlkeccaaGreatDoorRows.lean that lists a variable, with what it lists TIED to the program's text (the seventh form; the later family's looks); each row that meets fmt, with fmt's text TOLD by the authors' own Lean function (tested against real Go, not proved from fmt's source: count such statements apart). THE CARD IS WHAT COUNTS. Prove the row's statement (the work); the ties are given (YtjhgiojmlkeccaaGreatDoorTie.lean); close each card by the builder's one call (the guide's Derived/Test/ToyasCard.lean, 'card_holds'). Laid BY PROGRAM, IN A SANDBOX (cutbox-door.mjs). By AI agents, Wed Nov 11 2026. No macro, syntax, notation, axiom, sorry.
-/
import Derived.Test.YtjhgiojmlkeccaaGreatDoorRows
import GoSem.ClaimSeven
namespace Go.Proofs.YtjhgiojmlkeccaaGreatDoor
namespace Rows

/-- THE TIED CARD OF 'provostlaw16.ScalarOnce'. -/
def scalarOnceCard : Claim7 := { stood := { row := scalarOnceRow, standIns := [], harness := (true, "e55a62fd13e885dca2e8b38388cf56eac35fd47cae68f53e43942eaba5319e64"), looks := true }, kinds := [], alts := [], laidByText := true, laidKinds := [.data, .data, .data, .data, .sentinel, .sentinel, .pinned, .pinned], laidTests := true, laidLooks := .later }
def ScalarOnceCardSaid : Prop := Claim7.holds Tryz.pinned (.plain (OpenSpec.ofChange scalarOnceSpec)) scalarOnceCard

/-- THE TIED CARD OF 'provostlaw16.ScalarOrder'. -/
def scalarOrderCard : Claim7 := { stood := { row := scalarOrderRow, standIns := [], harness := (true, "e55a62fd13e885dca2e8b38388cf56eac35fd47cae68f53e43942eaba5319e64"), looks := true }, kinds := [], alts := [], laidByText := true, laidKinds := [.data, .data, .data, .data, .sentinel, .sentinel, .pinned, .pinned], laidTests := true, laidLooks := .later }
def ScalarOrderCardSaid : Prop := Claim7.holds Tryz.pinned (.plain (OpenSpec.ofChange scalarOrderSpec)) scalarOrderCard

/-- THE TIED CARD OF 'provostlaw16.ScalarSums'. -/
def scalarSumsCard : Claim7 := { stood := { row := scalarSumsRow, standIns := [], harness := (true, "e55a62fd13e885dca2e8b38388cf56eac35fd47cae68f53e43942eaba5319e64"), looks := true }, kinds := [], alts := [], laidByText := true, laidKinds := [.data, .data, .data, .data, .sentinel, .sentinel, .pinned, .pinned], laidTests := true, laidLooks := .later }
def ScalarSumsCardSaid : Prop := Claim7.holds Tryz.pinned (.plain (OpenSpec.ofChange scalarSumsSpec)) scalarSumsCard

/-- THE SECOND FORM's CARD OF 'provostlaw16.ScalarOnce'. -/
def scalarOnceUptoCard : Claim7 := { stood := { row := scalarOnceUptoRow, standIns := [], harness := (true, "e55a62fd13e885dca2e8b38388cf56eac35fd47cae68f53e43942eaba5319e64"), looks := true }, kinds := [], alts := [], laidByText := true, laidKinds := [.data, .data, .data, .data, .sentinel, .sentinel, .pinned, .pinned], laidTests := true, laidLooks := .later }
def ScalarOnceUptoCardSaid : Prop := Claim7.holds Tryz.pinned (.plain (OpenSpec.upto scalarOnceSpec)) scalarOnceUptoCard

/-- THE SECOND FORM's CARD OF 'provostlaw16.ScalarOrder'. -/
def scalarOrderUptoCard : Claim7 := { stood := { row := scalarOrderUptoRow, standIns := [], harness := (true, "e55a62fd13e885dca2e8b38388cf56eac35fd47cae68f53e43942eaba5319e64"), looks := true }, kinds := [], alts := [], laidByText := true, laidKinds := [.data, .data, .data, .data, .sentinel, .sentinel, .pinned, .pinned], laidTests := true, laidLooks := .later }
def ScalarOrderUptoCardSaid : Prop := Claim7.holds Tryz.pinned (.plain (OpenSpec.upto scalarOrderSpec)) scalarOrderUptoCard

/-- THE SECOND FORM's CARD OF 'provostlaw16.ScalarSums'. -/
def scalarSumsUptoCard : Claim7 := { stood := { row := scalarSumsUptoRow, standIns := [], harness := (true, "e55a62fd13e885dca2e8b38388cf56eac35fd47cae68f53e43942eaba5319e64"), looks := true }, kinds := [], alts := [], laidByText := true, laidKinds := [.data, .data, .data, .data, .sentinel, .sentinel, .pinned, .pinned], laidTests := true, laidLooks := .later }
def ScalarSumsUptoCardSaid : Prop := Claim7.holds Tryz.pinned (.plain (OpenSpec.upto scalarSumsSpec)) scalarSumsUptoCard
end Rows
end Go.Proofs.YtjhgiojmlkeccaaGreatDoor
