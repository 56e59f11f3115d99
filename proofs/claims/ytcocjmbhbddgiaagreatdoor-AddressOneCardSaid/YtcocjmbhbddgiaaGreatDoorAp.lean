/- URLs, plainly: bytes, escapes, what may be: on lists of bytes. No program in sight. -/
import Derived.Test.YtcocjmbhbddgiaaGreatDoorRq
set_option linter.unusedSimpArgs false
set_option linter.unusedVariables false
namespace Go.Proofs.YtcocjmbhbddgiaaGreatDoor
open Go.RowKit
def isLet (c : UInt8) : Bool := decide ((97 ≤ c.toNat ∧ c.toNat ≤ 122) ∨ (65 ≤ c.toNat ∧ c.toNat ≤ 90))
/-- A digit to the base of 16: its number, below 0: it is none. -/
def hexI (c : Int) : Int := if 48 ≤ c ∧ c ≤ 57 then c - 48 else if 65 ≤ c ∧ c ≤ 70 then c - 55 else if 97 ≤ c ∧ c ≤ 102 then c - 87 else -1
def isHex (c : UInt8) : Bool := decide (0 ≤ hexI c.toNat)
def isFree (c : UInt8) : Bool := isLet c || isDig c || ([45, 46, 95, 126] : List UInt8).contains c
def delims : List UInt8 := [33, 36, 38, 39, 40, 41, 42, 43, 44, 59, 61]
/-- Does an escape stand there? -/
def esc : List UInt8 → Bool
  | a :: b :: c :: _ => a == 37 && isHex b && isHex c
  | _ => false
/-- Is a text bytes that may be, and escapes? -/
def madeB (p : UInt8 → Bool) : List UInt8 → Bool
  | [] => true
  | [a] => p a
  | [a, b] => p a && p b
  | a :: b :: c :: r => if a == 37 && isHex b && isHex c then madeB p r else p a && madeB p (b :: c :: r)
theorem madeB_cons (p : UInt8 → Bool) (a : UInt8) (l : List UInt8) : madeB p (a :: l) = if esc (a :: l) then madeB p (l.drop 2) else p a && madeB p l := by
  match l with
  | [] => simp [madeB, esc]
  | [b] => simp [madeB, esc]
  | b :: c :: r => rw [madeB]; rfl
theorem madeB_drop (p : UInt8 → Bool) (l : List UInt8) (k : Nat) (h : k < l.length) :
    madeB p (l.drop k) = if esc (l.drop k) then madeB p (l.drop (k + 3)) else p l[k] && madeB p (l.drop (k + 1)) := by
  rw [List.drop_eq_getElem_cons h, madeB_cons, List.drop_drop, ← List.drop_eq_getElem_cons h]
theorem esc_drop (l : List UInt8) (k : Nat) : esc (l.drop k) = if h : k + 2 < l.length then (l[k] == 37 && isHex l[k + 1] && isHex l[k + 2]) else false := by
  split
  · rename_i h
    rw [List.drop_eq_getElem_cons (by omega), List.drop_eq_getElem_cons (by omega), List.drop_eq_getElem_cons h]; rfl
  · rename_i h
    rcases Nat.lt_or_ge k l.length with h1 | h1
    · rcases Nat.lt_or_ge (k + 1) l.length with h2 | h2
      · rw [List.drop_eq_getElem_cons h1, List.drop_eq_getElem_cons h2, List.drop_of_length_le (by omega)]; rfl
      · rw [List.drop_eq_getElem_cons h1, List.drop_of_length_le (by omega)]; rfl
    · rw [List.drop_of_length_le h1]; rfl
end Go.Proofs.YtcocjmbhbddgiaaGreatDoor
