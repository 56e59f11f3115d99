/- Plain arithmetic of 64-bit numbers that do not run over: what the sum, the difference and the product of two are, and the laws that they keep. No program in sight. -/
import Derived.WalkKit
namespace Go.Proofs.YtgljbhbpjobnbaaDoor
open Go.RowKit

/-- A number of 64 bits. -/
def R (n : Int) : Prop := -9223372036854775808 ≤ n ∧ n ≤ 9223372036854775807
/-- Is it one? -/
def inR (n : Int) : Bool := decide (-9223372036854775808 ≤ n ∧ n ≤ 9223372036854775807)
/-- A number that may be, or 0. -/
def val (n : Int) : Int := if -9223372036854775808 ≤ n ∧ n ≤ 9223372036854775807 then n else 0
/-- The error's number. -/
def err (n : Int) : Int := if -9223372036854775808 ≤ n ∧ n ≤ 9223372036854775807 then 0 else 20
theorem val_in {n : Int} (h : R n) : val n = n := if_pos h
theorem err_in {n : Int} (h : R n) : err n = 0 := if_pos h
theorem val_out {n : Int} (h : ¬ R n) : val n = 0 := if_neg h
theorem err_out {n : Int} (h : ¬ R n) : err n = 20 := if_neg h
theorem val_R (n : Int) : R (val n) := by unfold val R; split <;> omega
theorem inR_iff (n : Int) : inR n = true ↔ R n := by simp [inR, R]
theorem R_of_wf {n : Int} (h : (Lit.int .i64 n).wf = true) : R n := by
  simp [Lit.wf, IntKind.min, IntKind.max, IntKind.signed, IntKind.bits] at h
  unfold R; omega
theorem ret2 {a b c d : Int} (h : a = c) (h' : b = d) : Ending.returned (.tuple #[.int .i64 a, .int .i64 b]) = .returned (.tuple #[.int .i64 c, .int .i64 d]) := by rw [h, h']
theorem ret1 {a c : Bool} (h : a = c) : Ending.returned (.bool a) = .returned (.bool c) := by rw [h]
/-! ### Products -/
theorem mul_pp {a b : Int} (ha : 0 < a) (hb : 0 < b) : inR (a * b) = decide (a ≤ 9223372036854775807 / b) := by
  have h0 : 0 < a * b := Int.mul_pos ha hb
  have h1 : a ≤ 9223372036854775807 / b ↔ a * b ≤ 9223372036854775807 := Int.le_ediv_iff_mul_le hb
  rw [Bool.eq_iff_iff]; simp only [inR, decide_eq_true_eq, h1]; omega
theorem mul_nn {a b : Int} (ha : a < 0) (hb : b < 0) : inR (a * b) = decide (-a ≤ 9223372036854775807 / -b) := by
  rw [← mul_pp (a := -a) (b := -b) (by omega) (by omega), Int.neg_mul_neg]
theorem mul_min {b : Int} (hb : b < 0) : inR (-9223372036854775808 * b) = false := by
  simp only [inR, decide_eq_false_iff_not]; omega
theorem mul_pn {a b : Int} (ha : 0 < a) (hb : b < 0) : inR (a * b) = decide (-(9223372036854775808 / a) ≤ b) := by
  have h0 : 0 < a * -b := Int.mul_pos ha (by omega)
  have h2 : a * -b = -(a * b) := Int.mul_neg a b
  have h1 : -b ≤ 9223372036854775808 / a ↔ -b * a ≤ 9223372036854775808 := Int.le_ediv_iff_mul_le ha
  have h3 : -b * a = a * -b := Int.mul_comm _ _
  have h4 : inR (a * b) = true ↔ -b * a ≤ 9223372036854775808 := by simp only [inR, decide_eq_true_eq]; omega
  rw [Bool.eq_iff_iff, h4, ← h1, decide_eq_true_eq]; omega
theorem quo_bd {a : Int} (ha : 0 < a) : 0 ≤ (9223372036854775808 : Int) / a ∧ (9223372036854775808 : Int) / a ≤ 9223372036854775808 :=
  ⟨Int.ediv_nonneg (by omega) (by omega), Int.ediv_le_self _ (by omega)⟩
theorem wrap_in {n : Int} (h : R n) : wrap64 n = n := by unfold R at h; unfold wrap64; omega
theorem wrap_quo {a : Int} (ha : 0 < a) : wrap64 (-Int.tdiv 9223372036854775808 a) = -(9223372036854775808 / a) := by
  have h := quo_bd ha
  rw [Int.tdiv_eq_ediv_of_nonneg (by omega)]
  exact wrap_in (by unfold R; omega)
theorem wrap_quo_neg {b : Int} (hb : b < 0) : wrap64 (-Int.tdiv 9223372036854775807 b) = 9223372036854775807 / -b := by
  have h0 : (0 : Int) ≤ 9223372036854775807 / -b := Int.ediv_nonneg (by omega) (by omega)
  have h1 : (9223372036854775807 : Int) / -b ≤ 9223372036854775807 := Int.ediv_le_self _ (by omega)
  rw [← Int.tdiv_neg, Int.tdiv_eq_ediv_of_nonneg (by omega)]
  exact wrap_in (by unfold R; omega)
theorem mul_nn_test {a b : Int} (ha : a < 0) (hb : b < 0) (h1 : ¬ a = -9223372036854775808) (h2 : ¬ b = -9223372036854775808) :
    (a != -9223372036854775808 && b != -9223372036854775808 && decide (-a ≤ wrap64 (-Int.tdiv 9223372036854775807 b))) = inR (a * b) := by
  rw [wrap_quo_neg hb, ← mul_nn ha hb]; simp [h1, h2]
theorem mul_pn_test {a b : Int} (ha : 0 < a) (hb : b < 0) : decide (wrap64 (-Int.tdiv 9223372036854775808 a) ≤ b) = inR (a * b) := by
  rw [wrap_quo ha, mul_pn ha hb]
theorem mul_np_test {a b : Int} (ha : a < 0) (hb : 0 < b) : decide (wrap64 (-Int.tdiv 9223372036854775808 b) ≤ a) = inR (a * b) := by
  rw [Int.mul_comm, mul_pn_test hb ha]
theorem mul_min' {a : Int} (ha : a < 0) : inR (a * -9223372036854775808) = false := by rw [Int.mul_comm, mul_min ha]
def sgn (n : Int) : Int := if n < 0 then 1 else 0
def far (n : Int) : Int := if n < 0 then -n else n
theorem far_bd (n : Int) (h : R n) : 0 ≤ far n ∧ far n ≤ 9223372036854775808 := by unfold far R at *; split <;> omega
theorem sgn_01 (n : Int) : sgn n = 0 ∨ sgn n = 1 := by unfold sgn; split <;> simp
/-- A product, out of the factors' signs and how far they are from 0. -/
theorem mul_far (a b : Int) : a * b = if sgn a = sgn b then far a * far b else -(far a * far b) := by
  unfold sgn far
  by_cases ha : a < 0 <;> by_cases hb : b < 0 <;> simp [ha, hb, Int.neg_mul, Int.mul_neg]
theorem far_mul (a b : Int) : 0 ≤ far a * far b := Int.mul_nonneg (by unfold far; split <;> omega) (by unfold far; split <;> omega)
end Go.Proofs.YtgljbhbpjobnbaaDoor
