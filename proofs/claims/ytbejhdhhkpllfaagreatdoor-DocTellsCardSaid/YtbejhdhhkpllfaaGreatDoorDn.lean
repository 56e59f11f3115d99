/- sdl's inputs, Check. -/
import Derived.Test.YtbejhdhhkpllfaaGreatDoorDm
set_option linter.unusedSimpArgs false
set_option linter.unusedVariables false
namespace Go.Proofs.YtbejhdhhkpllfaaGreatDoor
open Go.RowKit
def fixD' (D : List DirD) : Bool := D.all fixD1
/-- An input that may be. -/
def inpB (x : Inp) : Bool := nameB x.name && ttB x.tnm x.wr && fixD' x.dirs && cond x.has (fixV x.dflt) x.dflt.isEmpty
theorem celsl_len {a : Option Addr} {n c : Nat} {V : List Cel} {w : World} (h : CelSl (.slice a n c) V w) : n = V.length := by
  rcases h with ⟨_, _, e, rfl, _⟩ | ⟨_, _, _, e, _⟩
  · injection e with _ e2 _
  · injection e with _ e2 _
/-- A field that may be. -/
def fldB (x : Fld) : Bool := nameB x.name && ttB x.tnm x.wr && fixD' x.dirs && x.args.all inpB
/-- An enum's name. -/
def enmB (s : List UInt8) : Bool := nameB s && !wordsK.contains s
/-- Which parts a definition of a kind has. -/
def kindB (k : Int) (n m f : Nat) : Bool := if k = 1 then decide (0 < n) && !decide (0 < m) && !decide (0 < f) else if k = 2 then !decide (0 < n) && decide (0 < m) && !decide (0 < f) else if k = 3 then !decide (0 < n) && !decide (0 < m) && decide (0 < f) else false
/-- A definition that may be. -/
def dfnB (x : Dfn) : Bool := kindB (x.kind.toNat : Int) x.names.length x.inputs.length x.fields.length && nameB x.name && fixD' x.dirs && x.names.all enmB && x.inputs.all inpB && x.fields.all fldB
theorem all_any {α : Type} (L : List α) (p : α → Bool) : L.all p = !L.any fun x => !p x := by
  induction L with
  | nil => rfl
  | cons x r ih => rw [List.all_cons, List.any_cons, Bool.not_or, Bool.not_not, ih]
theorem slg_len {α : Type} {k : Nat} {E : Addr → α → World → Prop} {a : Option Addr} {n c : Nat} {L : List α} {w : World} (h : SlG k E (.slice a n c) L w) : n = L.length := by
  rcases h with ⟨_, _, e, rfl⟩ | ⟨_, _, _, e, _⟩
  · injection e with _ e2 _
  · injection e with _ e2 _
/-- Definitions that may be. -/
def defsB (L : List Dfn) : Bool := !L.isEmpty && L.all dfnB
end Go.Proofs.YtbejhdhhkpllfaaGreatDoor
