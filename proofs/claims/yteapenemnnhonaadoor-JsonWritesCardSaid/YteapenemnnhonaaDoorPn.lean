/- Names and digits among bytes, plainly; where a byte stands. -/
import Derived.Test.YteapenemnnhonaaDoorLp
import Derived.Test.YteapenemnnhonaaDoorTv
set_option linter.unusedSimpArgs false
set_option linter.unusedVariables false
namespace Go.Proofs.YteapenemnnhonaaDoor
open Go.RowKit
theorem ib_cases (c : UInt8) : ∀ l : List UInt8, (l.contains c = true ∧ ∃ k : Nat, Lib.indexByte l c = k) ∨ (l.contains c = false ∧ Lib.indexByte l c = -1)
  | [] => Or.inr ⟨rfl, rfl⟩
  | b :: l => by
    rw [Lib.indexByte, List.contains_cons]
    by_cases hb : b = c
    · left; subst hb; exact ⟨by simp, 0, by simp⟩
    · have h1 : (b == c) = false := by simpa using hb
      have h2 : (c == b) = false := by simpa using fun e => hb e.symm
      rw [h1, h2, Bool.false_or]
      rcases ib_cases c l with ⟨g1, k, g2⟩ | ⟨g1, g2⟩
      · left
        refine ⟨g1, k + 1, ?_⟩
        rw [g2]
        have : (((k : Int)) == -1) = false := by rw [beq_eq_false_iff_ne]; omega
        simp only [Bool.false_eq_true, if_false, this]; omega
      · right
        refine ⟨g1, ?_⟩
        rw [g2]; rfl
theorem len_z (s : ByteArray) : s.data.toList.length = s.size := by rw [Array.length_toList]; rfl
theorem empty_z (s : ByteArray) : (0 < s.size ∧ ¬ s.toList = [] ∧ s.toList.isEmpty = false ∧ s.data.toList ≠ []) ∨ (s.size = 0 ∧ s.toList = [] ∧ s.toList.isEmpty = true ∧ s.data.toList = []) := by
  rw [ByteArray.toList_eq]
  have := len_z s
  cases h : s.data.toList with
  | nil => right; rw [h] at this; exact ⟨this.symm, rfl, rfl, rfl⟩
  | cons c r => left; rw [h] at this; exact ⟨by simp at this; omega, by simp, rfl, by simp⟩
def nameMs : List UInt8 := [95, 97, 98, 99, 100, 101, 102, 103, 104, 105, 106, 107, 108, 109, 110, 111, 112, 113, 114, 115, 116, 117, 118, 119, 120, 121, 122, 65, 66, 67, 68, 69, 70, 71, 72, 73, 74, 75, 76, 77, 78, 79, 80, 81, 82, 83, 84, 85, 86, 87, 88, 89, 90, 48, 49, 50, 51, 52, 53, 54, 55, 56, 57]
theorem all256' {f : UInt8 → Bool} (h : ∀ i : Fin 256, f (UInt8.ofNat i.val) = true) (c : UInt8) : f c = true := by
  have := h ⟨c.toNat, UInt8.toNat_lt c⟩
  simpa using this
theorem name_ms (c : UInt8) : nameMs.contains c = nameC c := by
  have := all256' (f := fun c => nameMs.contains c == nameC c) (by decide +kernel) c
  simpa using this
theorem head_z (s : ByteArray) (h : 0 < s.size) : s.data.toList = s[0] :: s.data.toList.drop 1 := by
  have := drop_at s 0 h
  rwa [List.drop_zero] at this
theorem ib_dig (c : UInt8) : Lib.indexByte (⟨#[48, 49, 50, 51, 52, 53, 54, 55, 56, 57]⟩ : ByteArray).data.toList c = if isDig c then ((c.toNat - 48 : Nat) : Int) else -1 := by
  have := all256' (f := fun c => Lib.indexByte (⟨#[48, 49, 50, 51, 52, 53, 54, 55, 56, 57]⟩ : ByteArray).data.toList c == if isDig c then ((c.toNat - 48 : Nat) : Int) else -1) (by decide +kernel) c
  simpa using this
theorem bytes_ext' {a : ByteArray} {l : List UInt8} (h : a.data.toList = l) : a = ⟨l.toArray⟩ := by
  obtain ⟨d⟩ := a
  have : d = l.toArray := by apply Array.ext'; simpa using h
  rw [this]
end Go.Proofs.YteapenemnnhonaaDoor
