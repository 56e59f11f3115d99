/- The walk through strings.Cut at one byte, whatever the string. -/
import Derived.WalkKit
import Derived.WalkSpells
import Derived.Handy
import Derived.Lib.Hide
import Derived.Lib.Bytealg
import Derived.Lib.IndexLaws
import Derived.Lib.Strings
import Derived.Lib.IndexBytes
import Derived.Deep.Light
import Derived.Deep.QuietTactic
import Derived.BigQuiet
import Derived.Outline
import Derived.Test.YtgljbhbpjobnbaaDoorRows
set_option linter.unusedSimpArgs false
set_option linter.unusedVariables false
namespace Go.Proofs.YtgljbhbpjobnbaaDoor
open Go.RowKit
/-- What stands ahead of the first c; what stands behind it; does one stand there? -/
def ahead (c : UInt8) (l : List UInt8) : List UInt8 := l.takeWhile (· != c)
def behind (c : UInt8) (l : List UInt8) : List UInt8 := (l.dropWhile (· != c)).tail
theorem behind_nil_of (c : UInt8) : ∀ l : List UInt8, l.contains c = false → ahead c l = l ∧ behind c l = []
  | [], _ => ⟨rfl, rfl⟩
  | b :: l, h => by
    rw [List.contains_cons, Bool.or_eq_false_iff] at h
    have hb : (b != c) = true := by
      have := h.1; rw [beq_eq_false_iff_ne] at this; rw [bne_iff_ne]; exact fun e => this e.symm
    obtain ⟨h1, h2⟩ := behind_nil_of c l h.2
    unfold ahead behind at *
    rw [List.takeWhile_cons_of_pos (p := (· != c)) hb, List.dropWhile_cons_of_pos (p := (· != c)) hb, h1, h2]; exact ⟨rfl, rfl⟩
theorem indexByte_ahead (c : UInt8) : ∀ l : List UInt8, Lib.indexByte l c = if l.contains c then ((ahead c l).length : Int) else -1
  | [] => rfl
  | b :: l => by
    rw [Lib.indexByte, indexByte_ahead c l, List.contains_cons]
    by_cases hb : b = c
    · subst hb; simp [ahead]
    · have h1 : (b == c) = false := by simpa using hb
      have h2 : (c == b) = false := by simpa using fun e => hb e.symm
      have h3 : (ahead c (b :: l)).length = (ahead c l).length + 1 := by
        unfold ahead; rw [List.takeWhile_cons_of_pos (by simpa using hb)]; rfl
      rw [h1, h2, h3]
      cases hl : l.contains c
      · rfl
      · have : (((ahead c l).length : Int) == -1) = false := by rw [beq_eq_false_iff_ne]; omega
        simp only [Bool.false_or, if_true, Bool.false_eq_true, if_false, this]; omega
theorem ahead_behind (c : UInt8) : ∀ l : List UInt8, l.contains c = true → l = ahead c l ++ c :: behind c l
  | [], h => by cases h
  | b :: l, h => by
    by_cases hb : b = c
    · subst hb; simp [ahead, behind]
    · have h2 : (c == b) = false := by simpa using fun e => hb e.symm
      rw [List.contains_cons, h2, Bool.false_or] at h
      have ih := ahead_behind c l h
      unfold ahead behind at *
      rw [List.takeWhile_cons_of_pos (by simpa using hb), List.dropWhile_cons_of_pos (by simpa using hb), List.cons_append, ← ih]
theorem ahead_take (c : UInt8) (l : List UInt8) (h : l.contains c = true) : l.take (ahead c l).length = ahead c l ∧ l.drop ((ahead c l).length + 1) = behind c l ∧ (ahead c l).length < l.length := by
  have e := ahead_behind c l h
  generalize ahead c l = a at *
  generalize behind c l = b at *
  subst e
  refine ⟨by simp, by simp, by simp⟩
theorem ahead_one (c : UInt8) : ahead c [c] = [] ∧ behind c [c] = [] := by simp [ahead, behind]
theorem ret_cut {a b a' b' : ByteArray} {f : Bool} (h : a = a') (h' : b = b') : Ending.returned (.tuple #[.string a, .string b, .bool f]) = .returned (.tuple #[.string a', .string b', .bool f]) := by rw [h, h']
theorem bytes_ext {a : ByteArray} {l : List UInt8} (h : a.data.toList = l) : a = ⟨l.toArray⟩ := by
  obtain ⟨d⟩ := a
  have : d = l.toArray := by apply Array.ext'; simpa using h
  rw [this]
end Go.Proofs.YtgljbhbpjobnbaaDoor
