/- URLs in one way, plainly. -/
import Derived.Test.YtcocjmbhbddgiaaGreatDoorAp
set_option linter.unusedSimpArgs false
set_option linter.unusedVariables false
namespace Go.Proofs.YtcocjmbhbddgiaaGreatDoor
open Go.RowKit
theorem byte_if {f : UInt8 → Bool} (h : ∀ i : Fin 256, f (UInt8.ofNat i.val) = true) (c : UInt8) : f c = true := by
  have := h ⟨c.toNat, UInt8.toNat_lt c⟩
  simpa using this
def lowB (c : UInt8) : UInt8 := if 65 ≤ c.toNat ∧ c.toNat ≤ 90 then UInt8.ofNat (c.toNat + 32) else c
def upB (c : UInt8) : UInt8 := if 97 ≤ c.toNat ∧ c.toNat ≤ 122 then UInt8.ofNat (c.toNat - 32) else c
/-- The byte that an escape tells. -/
def escByte (b c : UInt8) : UInt8 := UInt8.ofNat (16 * hexI b.toNat + hexI c.toNat).toNat
def outE (tf : UInt8 → UInt8) (b c : UInt8) : List UInt8 := if isFree (escByte b c) then [tf (escByte b c)] else [37, upB b, upB c]
def plainL (tf : UInt8 → UInt8) : List UInt8 → List UInt8
  | [] => []
  | [a] => [tf a]
  | [a, b] => [tf a, tf b]
  | a :: b :: c :: r => if a == 37 && isHex b && isHex c then outE tf b c ++ plainL tf r else tf a :: plainL tf (b :: c :: r)
theorem plain_cons (tf : UInt8 → UInt8) (a : UInt8) (l : List UInt8) (h : esc (a :: l) = false) : plainL tf (a :: l) = tf a :: plainL tf l := by
  match l with
  | [] => rfl
  | [b] => rfl
  | b :: c :: r =>
    rw [plainL]
    rw [show (a == 37 && isHex b && isHex c) = false from h]
    rfl
theorem plain_esc (tf : UInt8 → UInt8) (b c : UInt8) (r : List UInt8) (hb : isHex b = true) (hc : isHex c = true) : plainL tf (37 :: b :: c :: r) = outE tf b c ++ plainL tf r := by
  rw [plainL]
  rw [hb, hc]
  rfl
end Go.Proofs.YtcocjmbhbddgiaaGreatDoor
