import Derived.Test.YtfgdgnedmhecgaaWb
import Derived.Test.YtfgdgnedmhecgaaShelf
set_option linter.unusedSimpArgs false
set_option linter.unusedVariables false
namespace Go.Proofs.Ytfgdgnedmhecgaa
open Go.RowKit
set_option maxHeartbeats 400000 in
theorem muls_a0 (a b : Int) (ha : R a) (hb : R b) (h : a = 0) (w : World) :
    Calls Try.prog 20 #[.int .i64 a, .int .i64 b] w fun e w' => e = .returned (.bool (inR (a * b))) ∧ w = w' := by
  obtain ⟨ha1, ha2⟩ := ha
  obtain ⟨hb1, hb2⟩ := hb
  subst h
  go_enter Try.func20, Try.ntmps20
  go_wp2
  all_goals
    go_ret
    refine ⟨ret1 ?_, rfl⟩
    go_light
    simp [inR]
set_option maxHeartbeats 400000 in
theorem muls_b0 (a b : Int) (ha : R a) (hb : R b) (h : b = 0) (w : World) :
    Calls Try.prog 20 #[.int .i64 a, .int .i64 b] w fun e w' => e = .returned (.bool (inR (a * b))) ∧ w = w' := by
  obtain ⟨ha1, ha2⟩ := ha
  obtain ⟨hb1, hb2⟩ := hb
  subst h
  go_enter Try.func20, Try.ntmps20
  go_wp2
  all_goals
    go_ret
    refine ⟨ret1 ?_, rfl⟩
    go_light
    simp [inR]
set_option maxHeartbeats 400000 in
theorem muls_pp (a b : Int) (ha : R a) (hb : R b) (h : 0 < a) (h2 : 0 < b) (w : World) :
    Calls Try.prog 20 #[.int .i64 a, .int .i64 b] w fun e w' => e = .returned (.bool (inR (a * b))) ∧ w = w' := by
  obtain ⟨ha1, ha2⟩ := ha
  obtain ⟨hb1, hb2⟩ := hb
  have e1 : (a == 0) = false := beq_eq_false_iff_ne.2 (by omega)
  have e2 : (b == 0) = false := beq_eq_false_iff_ne.2 (by omega)
  go_enter Try.func20, Try.ntmps20
  go_wp2
  all_goals
    go_ret
    refine ⟨ret1 ?_, rfl⟩
    go_light
    exact (mul_pp h h2).symm
set_option maxHeartbeats 400000 in
theorem muls_nn (a b : Int) (ha : R a) (hb : R b) (h : a < 0) (h2 : b < 0) (w : World) :
    Calls Try.prog 20 #[.int .i64 a, .int .i64 b] w fun e w' => e = .returned (.bool (inR (a * b))) ∧ w = w' := by
  obtain ⟨ha1, ha2⟩ := ha
  obtain ⟨hb1, hb2⟩ := hb
  have e1 : (a == 0) = false := beq_eq_false_iff_ne.2 (by omega)
  have e2 : (b == 0) = false := beq_eq_false_iff_ne.2 (by omega)
  go_enter Try.func20, Try.ntmps20
  go_wp2
  all_goals
    go_ret
    refine ⟨ret1 ?_, rfl⟩
    go_light
    first | exact (mul_min h2).symm | exact (mul_min' h).symm | exact mul_nn_test h h2 (by assumption) (by assumption)
set_option maxHeartbeats 400000 in
theorem muls_pn (a b : Int) (ha : R a) (hb : R b) (h : 0 < a) (h2 : b < 0) (w : World) :
    Calls Try.prog 20 #[.int .i64 a, .int .i64 b] w fun e w' => e = .returned (.bool (inR (a * b))) ∧ w = w' := by
  obtain ⟨ha1, ha2⟩ := ha
  obtain ⟨hb1, hb2⟩ := hb
  have e1 : (a == 0) = false := beq_eq_false_iff_ne.2 (by omega)
  have e2 : (b == 0) = false := beq_eq_false_iff_ne.2 (by omega)
  go_enter Try.func20, Try.ntmps20
  go_wp2
  all_goals
    go_ret
    refine ⟨ret1 ?_, rfl⟩
    go_light
    exact mul_pn_test h h2
set_option maxHeartbeats 400000 in
theorem muls_np (a b : Int) (ha : R a) (hb : R b) (h : a < 0) (h2 : 0 < b) (w : World) :
    Calls Try.prog 20 #[.int .i64 a, .int .i64 b] w fun e w' => e = .returned (.bool (inR (a * b))) ∧ w = w' := by
  obtain ⟨ha1, ha2⟩ := ha
  obtain ⟨hb1, hb2⟩ := hb
  have e1 : (a == 0) = false := beq_eq_false_iff_ne.2 (by omega)
  have e2 : (b == 0) = false := beq_eq_false_iff_ne.2 (by omega)
  go_enter Try.func20, Try.ntmps20
  go_wp2
  all_goals
    go_ret
    refine ⟨ret1 ?_, rfl⟩
    go_light
    exact mul_np_test h h2
theorem muls_any (a b : Int) (ha : R a) (hb : R b) (w : World) :
    Calls Try.prog 20 #[.int .i64 a, .int .i64 b] w fun e w' => e = .returned (.bool (inR (a * b))) ∧ w = w' := by
  rcases Int.lt_trichotomy a 0 with h | h | h
  · rcases Int.lt_trichotomy b 0 with h2 | h2 | h2
    · exact muls_nn a b ha hb h h2 w
    · exact muls_b0 a b ha hb h2 w
    · exact muls_np a b ha hb h h2 w
  · exact muls_a0 a b ha hb h w
  · rcases Int.lt_trichotomy b 0 with h2 | h2 | h2
    · exact muls_pn a b ha hb h h2 w
    · exact muls_b0 a b ha hb h2 w
    · exact muls_pp a b ha hb h h2 w
set_option maxHeartbeats 400000 in
theorem rmul_any (a b : Int) (ha : R a) (hb : R b) (w : World) :
    Calls Try.prog 12 #[.int .i64 a, .int .i64 b] w fun e w' => e = .returned (.tuple #[.int .i64 (val (a * b)), .int .i64 (err (a * b))]) ∧ w = w' := by
  have HS : inR (a * b) = true → wrap64 (a * b) = a * b := fun h => wrap_in ((inR_iff _).1 h)
  have HS := Lib.hid HS
  go_enter Try.func12, Try.ntmps12
  go_wp2_with ((refine (muls_any _ _ ha hb _).mono ?_); rintro e w' ⟨rfl, rfl⟩)
  all_goals
    go_ret2
    refine ⟨ret2 ?_ ?_, rfl⟩
    all_goals
      have hs := HS.out
      go_light
      simp only [val, err, inR] at *
      (try simp at *) <;> (try split) <;> first | omega | simp_all
/-- A product of two numbers' distances from 0 that has one word alone, or more. -/
theorem mul_over (n x y : Int) (h : n = x * y ∨ n = -(x * y)) (h0 : 0 ≤ x * y) (h1 : 0 < x * y / 18446744073709551616) : ¬ R n := by
  unfold R; rcases h with rfl | rfl <;> omega
set_option maxHeartbeats 1000000 in
theorem mul_any (a b : Int) (ha : R a) (hb : R b) (w : World) :
    Calls Try.prog 8 #[.int .i64 a, .int .i64 b] w fun e w' => e = .returned (.tuple #[.int .i64 (val (a * b)), .int .i64 (err (a * b))]) ∧ Below w.heap.size w w' := by
  obtain ⟨x, hx⟩ : ∃ x : Nat, far a = x := Int.eq_ofNat_of_zero_le (far_bd a ha).1
  obtain ⟨y, hy⟩ : ∃ y : Nat, far b = y := Int.eq_ofNat_of_zero_le (far_bd b hb).1
  have hx' := (far_bd a ha).2
  have hy' := (far_bd b hb).2
  have hm := mul_far a b
  have h0 := far_mul a b
  rw [hx] at hx' hm h0
  rw [hy] at hy' hm h0
  have HA := Lib.hid (fun w => of_any a ha w)
  have HB := Lib.hid (fun w => of_any b hb w)
  have HM := Lib.hid (fun w => Try.bits_Mul64 x y (by omega) (by omega) w)
  rw [hx] at HA
  rw [hy] at HB
  have hbits : bits BinOp.xor IntKind.i64 0 0 = 0 ∧ bits BinOp.xor IntKind.i64 0 1 = 1 ∧ bits BinOp.xor IntKind.i64 1 0 = 1 ∧ bits BinOp.xor IntKind.i64 1 1 = 0 := by decide
  obtain ⟨q1, q2, q3, q4⟩ := hbits
  clear hx hy
  generalize hz : (x : Int) * y = z at *
  rcases sgn_01 a with sa | sa
  all_goals
    rcases sgn_01 b with sb | sb
  all_goals
    rw [sa] at HA hm
    rw [sb] at HB hm
    simp only [reduceIte, Int.reduceEq] at hm
    have Hm := Lib.hid hm
    have Hz := Lib.hid hz
    clear hm sa sb hz
    go_enter Try.func8, Try.ntmps8
    go_wp2_with fail
    refine (HA.out _).mono ?_; rintro e w1 ⟨rfl, hb1⟩
    go_wp2_with fail
    refine (HB.out _).mono ?_; rintro e w2 ⟨rfl, hb2⟩
    go_wp2_with fail
    refine (HM.out _).mono ?_; rintro e w3 ⟨rfl, rfl⟩
    go_wp2_with fail
    · go_ret2
      have hov : ¬ R (a * b) := mul_over _ x y (by rw [Hz.out, Hm.out]; simp) (by rw [Hz.out]; exact h0) (by assumption)
      exact ⟨ret2 (val_out hov).symm (err_out hov).symm, ((hb1.trans (hb2.mono hb1.size)).alloc (Nat.le_trans hb1.size hb2.size) _).alloc (by have := hb1.size; have := hb2.size; simp; omega) _⟩
    · have hlt : (x : Int) * y / 18446744073709551616 ≤ 0 := by assumption
      rw [Hz.out] at hlt
      have hzm : z % 18446744073709551616 = z := by omega
      have hz1 : z ≤ 18446744073709551615 := by omega
      have hbb : ∀ o1 o2, Below w.heap.size w ((w2.alloc o1).alloc o2) := fun o1 o2 => ((hb1.trans (hb2.mono hb1.size)).alloc (Nat.le_trans hb1.size hb2.size) o1).alloc (by have := hb1.size; have := hb2.size; simp; omega) o2
      rw [Hz.out, hzm]
      first
        | ((with_reducible refine (number_0 z h0 hz1 _).mono ?_); rintro e w3 ⟨rfl, hb3⟩)
        | ((with_reducible refine (number_1 z h0 hz1 _).mono ?_); rintro e w3 ⟨rfl, hb3⟩)
      clear hzm
      go_wp2
      go_ret2
      exact ⟨ret2 (by rw [Hm.out]) (by rw [Hm.out]), (hbb _ _).trans (hb3.mono (by have := hb1.size; have := hb2.size; simp; omega))⟩
end Go.Proofs.Ytfgdgnedmhecgaa
