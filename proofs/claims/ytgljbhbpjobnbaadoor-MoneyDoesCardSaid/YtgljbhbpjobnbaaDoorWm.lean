/- The walks through the reference's test on products (provostref02.Muls). -/
import Derived.Test.YtgljbhbpjobnbaaDoorWb
set_option linter.unusedSimpArgs false
set_option linter.unusedVariables false
namespace Go.Proofs.YtgljbhbpjobnbaaDoor
open Go.RowKit
set_option maxHeartbeats 400000 in
theorem muls_a0 (a b : Int) (ha : R a) (hb : R b) (h : a = 0) (w : World) :
    Calls Tryd.prog 26 #[.int .i64 a, .int .i64 b] w fun e w' => e = .returned (.bool (inR (a * b))) ∧ w = w' := by
  obtain ⟨ha1, ha2⟩ := ha
  obtain ⟨hb1, hb2⟩ := hb
  subst h
  go_enter Tryd.func26, Tryd.ntmps26
  go_wp2
  all_goals
    go_ret
    refine ⟨ret1 ?_, rfl⟩
    go_light
    simp [inR]
set_option maxHeartbeats 400000 in
theorem muls_b0 (a b : Int) (ha : R a) (hb : R b) (h : b = 0) (w : World) :
    Calls Tryd.prog 26 #[.int .i64 a, .int .i64 b] w fun e w' => e = .returned (.bool (inR (a * b))) ∧ w = w' := by
  obtain ⟨ha1, ha2⟩ := ha
  obtain ⟨hb1, hb2⟩ := hb
  subst h
  go_enter Tryd.func26, Tryd.ntmps26
  go_wp2
  all_goals
    go_ret
    refine ⟨ret1 ?_, rfl⟩
    go_light
    simp [inR]
set_option maxHeartbeats 400000 in
theorem muls_pp (a b : Int) (ha : R a) (hb : R b) (h : 0 < a) (h2 : 0 < b) (w : World) :
    Calls Tryd.prog 26 #[.int .i64 a, .int .i64 b] w fun e w' => e = .returned (.bool (inR (a * b))) ∧ w = w' := by
  obtain ⟨ha1, ha2⟩ := ha
  obtain ⟨hb1, hb2⟩ := hb
  have e1 : (a == 0) = false := beq_eq_false_iff_ne.2 (by omega)
  have e2 : (b == 0) = false := beq_eq_false_iff_ne.2 (by omega)
  go_enter Tryd.func26, Tryd.ntmps26
  go_wp2
  all_goals
    go_ret
    refine ⟨ret1 ?_, rfl⟩
    go_light
    exact (mul_pp h h2).symm
set_option maxHeartbeats 400000 in
theorem muls_nn (a b : Int) (ha : R a) (hb : R b) (h : a < 0) (h2 : b < 0) (w : World) :
    Calls Tryd.prog 26 #[.int .i64 a, .int .i64 b] w fun e w' => e = .returned (.bool (inR (a * b))) ∧ w = w' := by
  obtain ⟨ha1, ha2⟩ := ha
  obtain ⟨hb1, hb2⟩ := hb
  have e1 : (a == 0) = false := beq_eq_false_iff_ne.2 (by omega)
  have e2 : (b == 0) = false := beq_eq_false_iff_ne.2 (by omega)
  go_enter Tryd.func26, Tryd.ntmps26
  go_wp2
  all_goals
    go_ret
    refine ⟨ret1 ?_, rfl⟩
    go_light
    first | exact (mul_min h2).symm | exact (mul_min' h).symm | exact mul_nn_test h h2 (by assumption) (by assumption)
set_option maxHeartbeats 400000 in
theorem muls_pn (a b : Int) (ha : R a) (hb : R b) (h : 0 < a) (h2 : b < 0) (w : World) :
    Calls Tryd.prog 26 #[.int .i64 a, .int .i64 b] w fun e w' => e = .returned (.bool (inR (a * b))) ∧ w = w' := by
  obtain ⟨ha1, ha2⟩ := ha
  obtain ⟨hb1, hb2⟩ := hb
  have e1 : (a == 0) = false := beq_eq_false_iff_ne.2 (by omega)
  have e2 : (b == 0) = false := beq_eq_false_iff_ne.2 (by omega)
  go_enter Tryd.func26, Tryd.ntmps26
  go_wp2
  all_goals
    go_ret
    refine ⟨ret1 ?_, rfl⟩
    go_light
    exact mul_pn_test h h2
set_option maxHeartbeats 400000 in
theorem muls_np (a b : Int) (ha : R a) (hb : R b) (h : a < 0) (h2 : 0 < b) (w : World) :
    Calls Tryd.prog 26 #[.int .i64 a, .int .i64 b] w fun e w' => e = .returned (.bool (inR (a * b))) ∧ w = w' := by
  obtain ⟨ha1, ha2⟩ := ha
  obtain ⟨hb1, hb2⟩ := hb
  have e1 : (a == 0) = false := beq_eq_false_iff_ne.2 (by omega)
  have e2 : (b == 0) = false := beq_eq_false_iff_ne.2 (by omega)
  go_enter Tryd.func26, Tryd.ntmps26
  go_wp2
  all_goals
    go_ret
    refine ⟨ret1 ?_, rfl⟩
    go_light
    exact mul_np_test h h2
theorem muls_any (a b : Int) (ha : R a) (hb : R b) (w : World) :
    Calls Tryd.prog 26 #[.int .i64 a, .int .i64 b] w fun e w' => e = .returned (.bool (inR (a * b))) ∧ w = w' := by
  rcases Int.lt_trichotomy a 0 with h | h | h
  · rcases Int.lt_trichotomy b 0 with h2 | h2 | h2
    · exact muls_nn a b ha hb h h2 w
    · exact muls_b0 a b ha hb h2 w
    · exact muls_np a b ha hb h h2 w
  · exact muls_a0 a b ha hb h w
  · rcases Int.lt_trichotomy b 0 with h2 | h2 | h2
    · exact muls_pn a b ha hb h h2 w
    · exact muls_b0 a b ha hb h2 w
    · exact muls_pp a b ha hb h h2 w
end Go.Proofs.YtgljbhbpjobnbaaDoor
