/- Rows of digits, plainly: sums, differences; a number made of its digits. No program in sight. -/
import Derived.Test.YtgljbhbpjobnbaaDoorMx
set_option linter.unusedSimpArgs false
set_option linter.unusedVariables false
namespace Go.Proofs.YtgljbhbpjobnbaaDoor
/-- What is carried to a place. -/
def cry (u v i : Nat) : Nat := (u % 10 ^ i + v % 10 ^ i) / 10 ^ i
theorem cry_zero (u v : Nat) : cry u v 0 = 0 := by unfold cry; simp [Nat.mod_one]
theorem cry_le (u v i : Nat) : cry u v i ≤ 1 := by
  unfold cry
  have hp : 0 < 10 ^ i := Nat.pow_pos (by decide)
  have h1 := Nat.mod_lt u hp
  have h2 := Nat.mod_lt v hp
  exact Nat.le_of_lt_succ (Nat.div_lt_of_lt_mul (by omega))
theorem split_at (u i : Nat) : u = 10 ^ i * (u / 10 ^ i) + u % 10 ^ i := (Nat.div_add_mod u _).symm
theorem sum_div (u v i : Nat) : (u + v) / 10 ^ i = u / 10 ^ i + v / 10 ^ i + cry u v i := by
  have hp : 0 < 10 ^ i := Nat.pow_pos (by decide)
  unfold cry
  conv => lhs; rw [split_at u i, split_at v i]
  rw [show 10 ^ i * (u / 10 ^ i) + u % 10 ^ i + (10 ^ i * (v / 10 ^ i) + v % 10 ^ i) = (u % 10 ^ i + v % 10 ^ i) + 10 ^ i * (u / 10 ^ i + v / 10 ^ i) by rw [Nat.mul_add]; omega]
  rw [Nat.add_mul_div_left _ _ hp]
  omega
theorem dgt_sum (u v i : Nat) : dgt (u + v) i = (dgt u i + dgt v i + cry u v i) % 10 := by
  unfold dgt
  rw [sum_div]
  omega
theorem mod_succ (u i : Nat) : u % 10 ^ (i + 1) = 10 ^ i * dgt u i + u % 10 ^ i := by
  unfold dgt
  rw [Nat.pow_succ, Nat.mod_mul]
  omega
theorem cry_succ (u v i : Nat) : cry u v (i + 1) = (dgt u i + dgt v i + cry u v i) / 10 := by
  have hp : 0 < 10 ^ i := Nat.pow_pos (by decide)
  have h : (u % 10 ^ (i + 1) + v % 10 ^ (i + 1)) / 10 ^ i = dgt u i + dgt v i + cry u v i := by
    rw [mod_succ, mod_succ]
    unfold cry
    rw [show 10 ^ i * dgt u i + u % 10 ^ i + (10 ^ i * dgt v i + v % 10 ^ i) = (u % 10 ^ i + v % 10 ^ i) + 10 ^ i * (dgt u i + dgt v i) by rw [Nat.mul_add]; omega]
    rw [Nat.add_mul_div_left _ _ hp]
    omega
  rw [← h]
  unfold cry
  rw [Nat.pow_succ, ← Nat.div_div_eq_div_mul]
/-- The digits of a difference: W + V = U. -/
theorem dgt_diff (w v i : Nat) : (dgt (w + v) i : Int) - dgt v i - cry w v i = dgt w i - 10 * cry w v (i + 1) := by
  have h1 := dgt_sum w v i
  have h2 := cry_succ w v i
  omega
/-- A number's leading digits. -/
theorem lead (u i : Nat) : u / 10 ^ i = 10 * (u / 10 ^ (i + 1)) + dgt u i := by
  rw [div_succ]; unfold dgt; omega
theorem dgt_low_zero (u f : Nat) (h : ∀ j, j < f → dgt u j = 0) : u % 10 ^ f = 0 := by
  induction f with
  | zero => simp [Nat.mod_one]
  | succ f ih =>
    rw [mod_succ, ih (fun j hj => h j (by omega)), h f (by omega), Nat.mul_zero]
theorem whole_at (u f : Nat) (h : u % 10 ^ f = 0) : u / 10 ^ f * 10 ^ f = u := by
  have := split_at u f
  rw [h, Nat.mul_comm] at this
  omega
/-- A number less its noughts behind. -/
theorem norm_at (T : Int) (u f : Nat) (b : Bool) (hT : T = if b then -(u : Int) else u) (hf : f ≤ 18) (h : ∀ j, j < f → dgt u j = 0) (hn : f = 18 ∨ ¬ dgt u f = 0) :
    norm 18 T = ((if b then -((u / 10 ^ f : Nat) : Int) else ((u / 10 ^ f : Nat) : Int)), 18 - f) := by
  have hw := whole_at u f (dgt_low_zero u f h)
  obtain ⟨q, hq⟩ : ∃ q, u / 10 ^ f = q := ⟨_, rfl⟩
  rw [hq] at hw ⊢
  have e : T = (if b then -(q : Int) else q) * 10 ^ f := by
    rw [hT, ← hw]
    cases b
    · simp
    · simp [Int.neg_mul]
  have hs : 18 = (18 - f) + f := by omega
  rw [e]
  conv => lhs; rw [hs]
  rw [norm_scale]
  refine norm_id _ _ ?_
  unfold may
  rw [decide_eq_true_eq]
  refine ⟨by omega, by omega, ?_⟩
  rcases hn with hn | hn
  · left; omega
  · right
    unfold dgt at hn
    rw [hq] at hn
    cases b
    · simp; omega
    · simp; omega
end Go.Proofs.YtgljbhbpjobnbaaDoor
