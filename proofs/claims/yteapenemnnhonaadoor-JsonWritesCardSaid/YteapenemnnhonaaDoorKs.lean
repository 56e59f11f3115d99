/- The rounds over what stands in a list, an object, plainly. -/
import Derived.Test.YteapenemnnhonaaDoorCp
set_option linter.unusedSimpArgs false
set_option linter.unusedVariables false
namespace Go.Proofs.YteapenemnnhonaaDoor
/-- How the rounds stand: so many to come, such names, so many cells taken. -/
def KS (V : List Cel) (d1 k : Nat) (isL : Bool) (o : Option Nat) (g : Nat) (nm : List (List UInt8)) (u : Nat) : Prop := (kidsN (valN d1) isL g nm (V.drop (k + 1 + u))).map (u + ·) = o
theorem KS.start {V : List Cel} {d1 k : Nat} {isL : Bool} {o : Option Nat} {g : Nat} (h : kidsN (valN d1) isL g [] (V.drop (k + 1)) = o) : KS V d1 k isL o g [] 0 := by
  unfold KS
  rw [Nat.add_zero, ← h]
  cases kidsN (valN d1) isL g [] (V.drop (k + 1)) with
  | none => rfl
  | some n => show some (0 + n) = some n; rw [Nat.zero_add]
theorem KS.done {V : List Cel} {d1 k : Nat} {isL : Bool} {o : Option Nat} {nm : List (List UInt8)} {u : Nat} (h : KS V d1 k isL o 0 nm u) : o = some u := by
  unfold KS at h
  rw [← h]
  cases hd : V.drop (k + 1 + u) <;> rfl
theorem KS.out_ {V : List Cel} {d1 k : Nat} {isL : Bool} {o : Option Nat} {g : Nat} {nm : List (List UInt8)} {u : Nat} (h : KS V d1 k isL o (g + 1) nm u) (hp : V.length ≤ k + 1 + u) : o = none := by
  unfold KS at h
  rw [List.drop_of_length_le hp] at h
  rw [← h]; rfl
theorem KS.bad {V : List Cel} {d1 k : Nat} {isL : Bool} {o : Option Nat} {g : Nat} {nm : List (List UInt8)} {u p : Nat} (h : KS V d1 k isL o (g + 1) nm u) (hpu : p = k + 1 + u) (hp : p < V.length) (hok : okN isL nm V[p].name = false) : o = none := by
  subst hpu
  unfold KS at h
  rw [List.drop_eq_getElem_cons hp, kidsN, hok] at h
  rw [← h]; rfl
theorem KS.fail {V : List Cel} {d1 k : Nat} {isL : Bool} {o : Option Nat} {g : Nat} {nm : List (List UInt8)} {u p : Nat} (h : KS V d1 k isL o (g + 1) nm u) (hpu : p = k + 1 + u) (hp : p < V.length) (hok : okN isL nm V[p].name = true) (hv : valN d1 (V.drop p) = none) : o = none := by
  subst hpu
  unfold KS at h
  rw [List.drop_eq_getElem_cons hp, kidsN, hok, ← List.drop_eq_getElem_cons hp, hv] at h
  rw [← h]; rfl
theorem KS.next {V : List Cel} {d1 k : Nat} {isL : Bool} {o : Option Nat} {g : Nat} {nm : List (List UInt8)} {u p n : Nat} (h : KS V d1 k isL o (g + 1) nm u) (hpu : p = k + 1 + u) (hp : p < V.length) (hok : okN isL nm V[p].name = true) (hv : valN d1 (V.drop p) = some n) : KS V d1 k isL o g (V[p].name :: nm) (u + n) := by
  subst hpu
  unfold KS at h ⊢
  rw [List.drop_eq_getElem_cons hp, kidsN, hok, ← List.drop_eq_getElem_cons hp, hv] at h
  rw [← h]
  show _ = Option.map (u + ·) ((kidsN (valN d1) isL g (V[k + 1 + u].name :: nm) ((V.drop (k + 1 + u)).drop n)).map (n + ·))
  rw [List.drop_drop, show k + 1 + (u + n) = k + 1 + u + n from by omega, Option.map_map]
  congr 1
  funext x
  show u + n + x = u + (n + x)
  omega
theorem endI_none {V : List Cel} {p d : Nat} (h : valN d (V.drop p) = none) : endI V p d = -1 := by unfold endI; rw [h]
theorem endI_some {V : List Cel} {p d n : Nat} (h : valN d (V.drop p) = some n) : endI V p d = ((p + n : Nat) : Int) := by unfold endI; rw [h]
end Go.Proofs.YteapenemnnhonaaDoor
