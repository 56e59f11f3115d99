/- A text's Decimal, whole (money: Parse). -/
import Derived.Test.YtgljbhbpjobnbaaDoorMi
set_option linter.unusedSimpArgs false
set_option linter.unusedVariables false
namespace Go.Proofs.YtgljbhbpjobnbaaDoor
open Go.RowKit
theorem num_drop0 : ∀ l : List UInt8, num (l.dropWhile (· == 48)) = num l
  | [] => rfl
  | c :: l => by
    by_cases h : c = 48
    · subst h
      rw [List.dropWhile_cons_of_pos (by rfl), num_drop0 l]
      have := num_zeros 1 l
      exact this.symm
    · rw [List.dropWhile_cons_of_neg (by simpa using h)]
theorem ok_drop0 (l : List UInt8) (h : l.all isDig = true) (hz : l.dropWhile (· == 48) ≠ []) : okDigits (l.dropWhile (· == 48)) = true := by
  have ha : (l.dropWhile (· == 48)).all isDig = true := List.all_eq_true.2 fun x hx => List.all_eq_true.1 h x ((List.dropWhile_sublist _).subset hx)
  have hh := List.head_dropWhile_not (p := (· == (48 : UInt8))) (l := l) hz
  generalize l.dropWhile (· == 48) = z at *
  obtain ⟨c, r, rfl⟩ : ∃ c r, z = c :: r := by
    cases z with
    | nil => exact absurd rfl hz
    | cons c r => exact ⟨c, r, rfl⟩
  unfold okDigits digitsB
  rw [ha]
  simp only [List.head_cons] at hh
  have : ((c :: r).head? == some 48) = false := by
    simp only [List.head?_cons]
    rw [beq_eq_false_iff_ne] at hh ⊢
    simpa using hh
  rw [this]; rfl
theorem ok_below (l : List UInt8) (h : okDigits l = true) : below l = false := by
  cases l with
  | nil => rfl
  | cons c r =>
    simp only [okDigits, digitsB, Bool.and_eq_true, List.all_cons] at h
    exact dig_dash h.1.1.1
theorem body_id (l : List UInt8) (h : below l = false) : body l = l := by unfold body; rw [h]; rfl
theorem okd_all (l : List UInt8) (h : okDigits l = true) : l.all isDig = true := by
  simp only [okDigits, digitsB, Bool.and_eq_true] at h; exact h.1.1
theorem rdE_bad (l : List UInt8) (h : okDigits (body l) = false) : rdE l = 21 := by unfold rdE; rw [h]; rfl
theorem rdE_fine (l : List UInt8) (h : okDigits (body l) = true) : (rdE l == 21) = false := by
  unfold rdE err; rw [h]; simp only [if_true, beq_eq_false_iff_ne]; split <;> omega
theorem p_bad (l : List UInt8) (h : parseOk l = false) : pM l = 0 ∧ pS l = 0 ∧ pE l = 140 := by
  unfold pM pS pE; rw [h]; exact ⟨rfl, rfl, rfl⟩
theorem p_fine (l : List UInt8) (h : parseOk l = true) : pM l = (norm (back (body l)).length (pN l)).1 ∧ pS l = ((norm (back (body l)).length (pN l)).2 : Nat) ∧ pE l = 0 := by
  unfold pM pS pE; rw [h]; exact ⟨rfl, rfl, rfl⟩
theorem p_zero (l : List UInt8) (h : parseOk l = true) (h0 : pN l = 0) : pM l = 0 ∧ pS l = 0 ∧ pE l = 0 := by
  obtain ⟨h1, h2, h3⟩ := p_fine l h
  rw [h1, h2, h3, h0, norm_zero]; exact ⟨rfl, rfl, rfl⟩
theorem toList_mk (l : List UInt8) : (⟨l.toArray⟩ : ByteArray).toList = l := by rw [ByteArray.toList_eq]
theorem size_mk (l : List UInt8) : (⟨l.toArray⟩ : ByteArray).size = l.length := by show l.toArray.size = _; simp
theorem front_len (l : List UInt8) : (front l).length ≤ l.length := (List.takeWhile_sublist _).length_le
theorem back_len (l : List UInt8) : (back l).length ≤ l.length := by
  unfold back
  have := (List.dropWhile_sublist (p := (· != (46 : UInt8))) (l := l)).length_le
  rw [List.length_tail]; omega
theorem rd_pos (z : List UInt8) (h : okDigits z = true) : rdV z = val (num z) ∧ rdE z = err (num z) := by
  have hb := ok_below z h
  unfold rdV rdE signed
  rw [body_id z hb, h, hb]; exact ⟨rfl, rfl⟩
theorem rd_neg (z : List UInt8) (h : okDigits z = true) : rdV (45 :: z) = val (-(num z : Int)) ∧ rdE (45 :: z) = err (-(num z : Int)) := by
  unfold rdV rdE signed
  have e : body (45 :: z) = z := rfl
  have e2 : below (45 :: z) = true := rfl
  rw [e, e2, h]; exact ⟨rfl, rfl⟩
theorem err_ne {n : Int} (h : inR n = false) : (err n != 0) = true := by
  rw [err_out (fun q => by rw [(inR_iff n).2 q] at h; cases h)]; rfl
end Go.Proofs.YtgljbhbpjobnbaaDoor
