/- sdl's typ, args, dirs. -/
import Derived.Test.YtbejhdhhkpllfaaGreatDoorDl
set_option linter.unusedSimpArgs false
set_option linter.unusedVariables false
namespace Go.Proofs.YtbejhdhhkpllfaaGreatDoor
open Go.RowKit
noncomputable def argsB : List ArgD → List ArgD → Bool
  | _, [] => true
  | P, x :: r => !P.any (fun b => eqB b.1 x.1) && nameB x.1 && fixV x.2 && argsB (P ++ [x]) r
theorem argsB_named : ∀ (A P : List ArgD) (nm : List (List UInt8)), (∀ s, nm.contains s = P.any fun b => eqB b.1 s) → argsB P A = (namedB nm A && !A.any fun a => a.2.any isV)
  | [], P, nm, h => rfl
  | x :: r, P, nm, h => by
    rw [argsB, namedB_step, argsB_named r (P ++ [x]) (x.1 :: nm) (fun s => by
      rw [List.contains_cons, List.any_append, h s]
      have : (s == x.1) = eqB x.1 s := eqB_of (by rw [beq_iff_eq]; exact eq_comm)
      rw [this]
      simp [Bool.or_comm]), h x.1, fixV_lit, List.any_cons]
    cases P.any (fun b => eqB b.1 x.1) <;> cases nameB x.1 <;> cases litB x.2 <;> cases x.2.any isV <;> cases namedB (x.1 :: nm) r <;> simp
/-- Arguments of definitions: they may be, and there is no variable in them. -/
def fixA (A : List ArgD) : Bool := namedB [] A && !A.any fun a => a.2.any isV
/-- Directives of definitions. -/
def fixD (D : List DirD) : Bool := D.all fun d => nameB d.1 && fixA d.2
def fixD1 (d : DirD) : Bool := nameB d.1 && fixA d.2
end Go.Proofs.YtbejhdhhkpllfaaGreatDoor
