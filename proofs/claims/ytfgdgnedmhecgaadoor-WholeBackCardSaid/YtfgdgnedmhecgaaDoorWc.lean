/- The walk through a product (whole.Mul). -/
import Derived.Test.YtfgdgnedmhecgaaDoorWb
import Derived.Test.YtfgdgnedmhecgaaDoorShelf
set_option linter.unusedSimpArgs false
set_option linter.unusedVariables false
namespace Go.Proofs.YtfgdgnedmhecgaaDoor
open Go.RowKit
theorem mul_over (n x y : Int) (h : n = x * y ∨ n = -(x * y)) (h0 : 0 ≤ x * y) (h1 : 0 < x * y / 18446744073709551616) : ¬ R n := by
  unfold R; rcases h with rfl | rfl <;> omega
set_option maxHeartbeats 1000000 in
theorem mul_any (a b : Int) (ha : R a) (hb : R b) (w : World) :
    Calls Tryd.prog 14 #[.int .i64 a, .int .i64 b] w fun e w' => e = .returned (.tuple #[.int .i64 (val (a * b)), .int .i64 (err (a * b))]) ∧ Below w.heap.size w w' := by
  obtain ⟨x, hx⟩ : ∃ x : Nat, far a = x := Int.eq_ofNat_of_zero_le (far_bd a ha).1
  obtain ⟨y, hy⟩ : ∃ y : Nat, far b = y := Int.eq_ofNat_of_zero_le (far_bd b hb).1
  have hx' := (far_bd a ha).2
  have hy' := (far_bd b hb).2
  have hm := mul_far a b
  have h0 := far_mul a b
  rw [hx] at hx' hm h0
  rw [hy] at hy' hm h0
  have HA := Lib.hid (fun w => of_any a ha w)
  have HB := Lib.hid (fun w => of_any b hb w)
  have HM := Lib.hid (fun w => Tryd.bits_Mul64 x y (by omega) (by omega) w)
  rw [hx] at HA
  rw [hy] at HB
  have hbits : bits BinOp.xor IntKind.i64 0 0 = 0 ∧ bits BinOp.xor IntKind.i64 0 1 = 1 ∧ bits BinOp.xor IntKind.i64 1 0 = 1 ∧ bits BinOp.xor IntKind.i64 1 1 = 0 := by decide
  obtain ⟨q1, q2, q3, q4⟩ := hbits
  clear hx hy
  generalize hz : (x : Int) * y = z at *
  rcases sgn_01 a with sa | sa
  all_goals
    rcases sgn_01 b with sb | sb
  all_goals
    rw [sa] at HA hm
    rw [sb] at HB hm
    simp only [reduceIte, Int.reduceEq] at hm
    have Hm := Lib.hid hm
    have Hz := Lib.hid hz
    clear hm sa sb hz
    go_enter Tryd.func14, Tryd.ntmps14
    go_wp2_with fail
    refine (HA.out _).mono ?_; rintro e w1 ⟨rfl, hb1⟩
    go_wp2_with fail
    refine (HB.out _).mono ?_; rintro e w2 ⟨rfl, hb2⟩
    go_wp2_with fail
    refine (HM.out _).mono ?_; rintro e w3 ⟨rfl, rfl⟩
    go_wp2_with fail
    · go_ret2
      have hov : ¬ R (a * b) := mul_over _ x y (by rw [Hz.out, Hm.out]; simp) (by rw [Hz.out]; exact h0) (by assumption)
      exact ⟨ret2 (val_out hov).symm (err_out hov).symm, ((hb1.trans (hb2.mono hb1.size)).alloc (Nat.le_trans hb1.size hb2.size) _).alloc (by have := hb1.size; have := hb2.size; simp; omega) _⟩
    · have hlt : (x : Int) * y / 18446744073709551616 ≤ 0 := by assumption
      rw [Hz.out] at hlt
      have hzm : z % 18446744073709551616 = z := by omega
      have hz1 : z ≤ 18446744073709551615 := by omega
      have hbb : ∀ o1 o2, Below w.heap.size w ((w2.alloc o1).alloc o2) := fun o1 o2 => ((hb1.trans (hb2.mono hb1.size)).alloc (Nat.le_trans hb1.size hb2.size) o1).alloc (by have := hb1.size; have := hb2.size; simp; omega) o2
      rw [Hz.out, hzm]
      first
        | ((with_reducible refine (number_0 z h0 hz1 _).mono ?_); rintro e w3 ⟨rfl, hb3⟩)
        | ((with_reducible refine (number_1 z h0 hz1 _).mono ?_); rintro e w3 ⟨rfl, hb3⟩)
      clear hzm
      go_wp2
      go_ret2
      exact ⟨ret2 (by rw [Hm.out]) (by rw [Hm.out]), (hbb _ _).trans (hb3.mono (by have := hb1.size; have := hb2.size; simp; omega))⟩
end Go.Proofs.YtfgdgnedmhecgaaDoor
