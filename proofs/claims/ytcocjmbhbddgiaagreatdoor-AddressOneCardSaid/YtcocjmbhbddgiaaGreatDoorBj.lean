/- URLs, plainly: the text of what a text tells. -/
import Derived.Test.YtcocjmbhbddgiaaGreatDoorBi
set_option linter.unusedSimpArgs false
set_option linter.unusedVariables false
namespace Go.Proofs.YtcocjmbhbddgiaaGreatDoor
open Go.RowKit
def tellP (l : List UInt8) : List UInt8 := tellL (scP l) (usP l) (hoP l) (poP l) (paP l) (quP l) (huP l) (hqP l)
theorem head_rest (l : List UInt8) : headL l ++ restL l = l := by
  unfold headL restL
  split
  · exact List.take_append_drop _ _
  · exact List.append_nil l
theorem parse_tell (l : List UInt8) (h : parseOk l = true) : tellP l = l ∨ (poP l = [] ∧ (tellP l).length + 1 = l.length) := by
  unfold parseOk okL at h
  simp only [Bool.and_eq_true, decide_eq_true_eq] at h
  obtain ⟨⟨⟨h1, h2⟩, h3⟩, hm⟩ := h
  have e0 := ahead_behind 58 l h1
  have e1 : behind 58 l = 47 :: 47 :: r2L l := by
    unfold r2L
    match q : behind 58 l, h2 with
    | [], h2 => cases h2
    | [a], h2 => simp [Lib.hasPrefix, List.isPrefixOf] at h2
    | a :: b :: r, h2 =>
      simp only [Lib.hasPrefix, List.isPrefixOf, Bool.and_eq_true, beq_iff_eq] at h2
      rw [← h2.1, ← h2.2.1]; rfl
  have e2 : r2L l = hP l ++ rtP l := (head_rest _).symm
  have e3 : hP l = (if huP l then usP l ++ [64] else []) ++ hd2L (hP l) := by
    unfold huP usP usL hd2L
    split
    · rename_i q
      have := ahead_behind 64 (hP l) q
      simpa using this
    · rfl
  have e4 : rtP l = paP l ++ (if hqP l then 63 :: quP l else []) := by
    unfold hqP paP quP
    split
    · rename_i q
      exact ahead_behind 63 (rtP l) q
    · rename_i q
      have := behind_nil_of 63 (rtP l) (by simpa using q)
      rw [this.1, List.append_nil]
  have hl : l = scP l ++ 58 :: 47 :: 47 :: ((if huP l then usP l ++ [64] else []) ++ hd2L (hP l) ++ (paP l ++ (if hqP l then 63 :: quP l else []))) := by
    rw [← e3, ← e4, ← e2, ← e1]; exact e0
  cases hc : (hd2L (hP l)).contains 58 with
  | true =>
    have e5 : hd2L (hP l) = hoP l ++ 58 :: poP l := ahead_behind 58 _ hc
    cases hp : poP l with
    | nil =>
      right
      refine ⟨rfl, ?_⟩
      have := congrArg List.length hl
      rw [e5, hp] at this
      unfold tellP tellL
      rw [hp]
      simp only [List.isEmpty_nil, if_true, List.length_append, List.length_cons, List.length_nil] at *
      omega
    | cons a r =>
      left
      unfold tellP
      rw [tell_auth]
      unfold authL
      rw [hp]
      rw [e5, hp] at hl
      simp only [List.isEmpty_cons, Bool.false_eq_true, if_false]
      refine Eq.trans ?_ hl.symm
      simp
  | false =>
    left
    have := behind_nil_of 58 _ hc
    have e5 : hd2L (hP l) = hoP l := this.1.symm
    have hp : poP l = [] := this.2
    unfold tellP
    rw [tell_auth]
    unfold authL
    rw [hp]
    rw [e5] at hl
    refine Eq.trans ?_ hl.symm
    simp
end Go.Proofs.YtcocjmbhbddgiaaGreatDoor
