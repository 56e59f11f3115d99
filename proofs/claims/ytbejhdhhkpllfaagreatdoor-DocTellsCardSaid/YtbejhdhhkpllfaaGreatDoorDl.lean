/- sdl's constant, fixed, typ, args, dirs: which parts of definitions may be. -/
import Derived.Test.YtbejhdhhkpllfaaGreatDoorDd
import Derived.Test.YtbejhdhhkpllfaaGreatDoorDh
import Derived.Test.YtbejhdhhkpllfaaGreatDoorRo4
set_option linter.unusedSimpArgs false
set_option linter.unusedVariables false
namespace Go.Proofs.YtbejhdhhkpllfaaGreatDoor
open Go.RowKit
/-- A cell that a literal of definitions must not have. -/
def badF (c : Cel) : Bool := c.kind == 5 || (c.kind == 4 && wordsK.contains c.text) || (!c.name.isEmpty && !nameB c.name)
def fixV (V : List Cel) : Bool := mayB V && !V.any badF
theorem fixV_lit (V : List Cel) : fixV V = (litB V && !V.any isV) := by
  rw [litB_okC, fixV]
  cases mayB V with
  | false => rfl
  | true =>
    simp only [Bool.true_and]
    induction V with
    | nil => rfl
    | cons c r ih =>
      rw [List.any_cons, List.all_cons, List.any_cons, Bool.not_or, Bool.not_or, ih]
      unfold badF isV okC
      cases (c.kind == 5) <;> cases (c.kind == 4) <;> cases wordsK.contains c.text <;> cases c.name.isEmpty <;> cases nameB c.name <;> simp
end Go.Proofs.YtbejhdhhkpllfaaGreatDoor
