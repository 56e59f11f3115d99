import Derived.Test.YtfgdgnedmhecgaaWa
import Derived.Test.YtfgdgnedmhecgaaWc
set_option linter.unusedSimpArgs false
set_option linter.unusedVariables false
namespace Go.Proofs.Ytfgdgnedmhecgaa
open Go.RowKit
theorem is_yes (a b c d : Int) (h : a = c) (h' : b = d) (w : World) :
    Calls Try.prog 15 #[.int .i64 a, .int .i64 b, .int .i64 c, .int .i64 d] w fun e w' => e = .returned (.bool true) ∧ w = w' :=
  (is_any a b c d w).mono fun e w' ⟨he, hw⟩ => ⟨by rw [he, h, h']; simp, hw⟩
set_option maxHeartbeats 1000000 in
theorem alive_any (w : World) :
    Calls Try.prog 6 #[] w fun e w' => e = .returned (.bool true) ∧ Below w.heap.size w w' := by
  go_enter Try.func6, Try.ntmps6
  go_wp2_with fail
  refine (add_any _ _ (by unfold R; omega) (by unfold R; omega) _).mono ?_; rintro e w1 ⟨rfl, rfl⟩
  go_wp2_with fail
  refine (add_any _ _ (by unfold R; omega) (by unfold R; omega) _).mono ?_; rintro e w1 ⟨rfl, rfl⟩
  go_wp2_with fail
  refine (mul_any _ _ (by unfold R; omega) (by unfold R; omega) _).mono ?_; rintro e w1 ⟨rfl, hb⟩
  go_wp2_with fail
  refine (is_yes _ _ _ _ (by decide) (by decide) _).mono ?_; rintro e w1 ⟨rfl, rfl⟩
  go_wp2_with fail
  refine (is_yes _ _ _ _ (by decide) (by decide) _).mono ?_; rintro e w1 ⟨rfl, rfl⟩
  go_wp2_with fail
  refine (is_yes _ _ _ _ (by decide) (by decide) _).mono ?_; rintro e w1 ⟨rfl, rfl⟩
  go_wp2
  go_ret
  exact ⟨rfl, hb⟩
set_option maxHeartbeats 1000000 in
theorem does (a b : Int) (ha : R a) (hb : R b) (w : World) :
    Calls Try.prog 5 #[.int .i64 a, .int .i64 b] w fun e w' => e = .returned (.bool true) ∧ Below w.heap.size w w' := by
  go_enter Try.func5, Try.ntmps5
  go_wp2_with fail
  refine (add_any _ _ ha hb _).mono ?_; rintro e w1 ⟨rfl, rfl⟩
  go_wp2_with fail
  refine (radd_any _ _ ha hb _).mono ?_; rintro e w1 ⟨rfl, rfl⟩
  go_wp2_with fail
  refine (sub_any _ _ ha hb _).mono ?_; rintro e w1 ⟨rfl, rfl⟩
  go_wp2_with fail
  refine (rsub_any _ _ ha hb _).mono ?_; rintro e w1 ⟨rfl, rfl⟩
  go_wp2_with fail
  refine (mul_any _ _ ha hb _).mono ?_; rintro e w1 ⟨rfl, hb1⟩
  go_wp2_with fail
  refine (rmul_any _ _ ha hb _).mono ?_; rintro e w2 ⟨rfl, rfl⟩
  go_wp2_with fail
  refine (neg_any _ ha _).mono ?_; rintro e w2 ⟨rfl, rfl⟩
  go_wp2_with fail
  refine (rneg_any _ ha _).mono ?_; rintro e w2 ⟨rfl, rfl⟩
  go_wp2
  go_ret
  exact ⟨rfl, hb1⟩
theorem tq (n : Int) : n = 2 * n.tdiv 2 + n.tmod 2 ∧ ((0 ≤ n ∧ 0 ≤ n.tmod 2 ∧ n.tmod 2 ≤ 1) ∨ (n ≤ 0 ∧ -1 ≤ n.tmod 2 ∧ n.tmod 2 ≤ 0)) := by
  refine ⟨(Int.mul_tdiv_add_tmod n 2).symm, ?_⟩
  rcases Int.le_total 0 n with h | h
  · left; rw [Int.tmod_eq_emod_of_nonneg h]; omega
  · right
    have e : n.tmod 2 = -((-n).tmod 2) := by rw [Int.neg_tmod]; omega
    rw [e, Int.tmod_eq_emod_of_nonneg (by omega)]; omega
theorem half_law {a b : Int} (ha : R a) (hb : R b) :
    (R (a + b) → -4611686018427387904 ≤ wrap64 (wrap64 (wrap64 (a.tdiv 2) + wrap64 (b.tdiv 2)) + wrap64 ((wrap64 (a.tmod 2 + b.tmod 2)).tdiv 2)) ∧ wrap64 (wrap64 (wrap64 (a.tdiv 2) + wrap64 (b.tdiv 2)) + wrap64 ((wrap64 (a.tmod 2 + b.tmod 2)).tdiv 2)) ≤ 4611686018427387903) ∧
    (¬ R (a + b) → 4611686018427387903 ≤ wrap64 (wrap64 (wrap64 (a.tdiv 2) + wrap64 (b.tdiv 2)) + wrap64 ((wrap64 (a.tmod 2 + b.tmod 2)).tdiv 2)) ∨ wrap64 (wrap64 (wrap64 (a.tdiv 2) + wrap64 (b.tdiv 2)) + wrap64 ((wrap64 (a.tmod 2 + b.tmod 2)).tdiv 2)) ≤ -4611686018427387904) := by
  obtain ⟨ha1, ha2⟩ := ha
  obtain ⟨hb1, hb2⟩ := hb
  have ta := tq a
  have tb := tq b
  have tc := tq (a.tmod 2 + b.tmod 2)
  have e1 : wrap64 (a.tdiv 2) = a.tdiv 2 := wrap_in (by unfold R; omega)
  have e2 : wrap64 (b.tdiv 2) = b.tdiv 2 := wrap_in (by unfold R; omega)
  have e3 : wrap64 (a.tmod 2 + b.tmod 2) = a.tmod 2 + b.tmod 2 := wrap_in (by unfold R; omega)
  have e4 : wrap64 ((a.tmod 2 + b.tmod 2).tdiv 2) = (a.tmod 2 + b.tmod 2).tdiv 2 := wrap_in (by unfold R; omega)
  have e5 : wrap64 (a.tdiv 2 + b.tdiv 2) = a.tdiv 2 + b.tdiv 2 := wrap_in (by unfold R; omega)
  rw [e1, e2, e3, e4, e5]
  have e6 : wrap64 (a.tdiv 2 + b.tdiv 2 + (a.tmod 2 + b.tmod 2).tdiv 2) = a.tdiv 2 + b.tdiv 2 + (a.tmod 2 + b.tmod 2).tdiv 2 := wrap_in (by unfold R; omega)
  rw [e6]
  unfold R
  constructor <;> omega
set_option maxHeartbeats 1000000 in
theorem rings_walk (a b : Int) (ha : R a) (hb : R b) (w : World) :
    Calls Try.prog 4 #[.int .i64 a, .int .i64 b] w fun e w' => e = .returned (.bool true) ∧ Below w.heap.size w w' := by
  have HO : wrap64 (b + 1) = b + 1 ∨ b = 9223372036854775807 := by unfold R at hb; unfold wrap64; omega
  have HO := Lib.hid HO
  have hab : R (a + b) → err (a + b) = 0 ∧ val (val (a + b) - b) = a ∧ err (val (a + b) - b) = 0 := fun h => by
    rw [err_in h, val_in h, show a + b - b = a from by omega, val_in ha, err_in ha]; exact ⟨rfl, rfl, rfl⟩
  have hnab : ¬ R (a + b) → (err (a + b) == 0) = false := fun h => by rw [err_out h]; decide
  have hm : R (a * b) → val (a * b) + a = a * (b + 1) := fun h => by rw [val_in h, Int.mul_add, Int.mul_one]
  have hnm : ¬ R (a * b) → (err (a * b) != 0) = true := fun h => by rw [err_out h]; decide
  have HAB := Lib.hid hab
  have HNAB := Lib.hid hnab
  have HM := Lib.hid hm
  have HNM := Lib.hid hnm
  clear hab hnab hm hnm
  go_enter Try.func4, Try.ntmps4
  go_wp2_with fail
  refine (alive_any _).mono ?_; rintro e w1 ⟨rfl, hb1⟩
  go_wp2_with fail
  refine (add_any _ _ ha hb _).mono ?_; rintro e w2 ⟨rfl, rfl⟩
  go_wp2_with fail
  refine (add_any _ _ hb ha _).mono ?_; rintro e w2 ⟨rfl, rfl⟩
  rw [Int.add_comm b a]
  go_wp2_with fail
  refine (mul_any _ _ ha hb _).mono ?_; rintro e w2 ⟨rfl, hb2⟩
  go_wp2_with fail
  refine (mul_any _ _ hb ha _).mono ?_; rintro e w3 ⟨rfl, hb3⟩
  rw [Int.mul_comm b a]
  have hbb := (hb1.trans (hb2.mono hb1.size)).trans (hb3.mono (Nat.le_trans hb1.size hb2.size))
  clear hb1 hb2 hb3
  by_cases hr : R (a + b)
  · obtain ⟨q1, q2, q3⟩ := HAB.out hr
    go_wp2_with fail
    refine (sub_any _ _ (val_R _) hb _).mono ?_; rintro e w4 ⟨rfl, rfl⟩
    go_wp2_with fail
    · go_ret
      exact ⟨rfl, hbb⟩
    · have hbm : wrap64 (b + 1) = b + 1 := by
        rcases HO.out with h | h
        · exact h
        · exact absurd ‹(b == 9223372036854775807) = false› (by simp [h])
      rw [hbm]
      have hbr : R (b + 1) := by rw [← hbm]; unfold R wrap64; omega
      clear hbm
      refine (mul_any _ _ ha hbr _).mono ?_; rintro e w5 ⟨rfl, hb5⟩
      go_wp2_with fail
      refine (add_any _ _ (val_R _) ha _).mono ?_; rintro e w6 ⟨rfl, rfl⟩
      by_cases hm : R (a * b)
      · rw [HM.out hm]
        go_wp2_with fail
        all_goals
          go_ret
          exact ⟨rfl, hbb.trans (hb5.mono hbb.size)⟩
      · have q4 := HNM.out hm
        go_wp2_with fail
        all_goals
          go_ret
          exact ⟨rfl, hbb.trans (hb5.mono hbb.size)⟩
  · have q1 := HNAB.out hr
    go_wp2_with fail
    · go_ret
      exact ⟨rfl, hbb⟩
    · have hbm : wrap64 (b + 1) = b + 1 := by
        rcases HO.out with h | h
        · exact h
        · exact absurd ‹(b == 9223372036854775807) = false› (by simp [h])
      rw [hbm]
      have hbr : R (b + 1) := by rw [← hbm]; unfold R wrap64; omega
      clear hbm
      refine (mul_any _ _ ha hbr _).mono ?_; rintro e w5 ⟨rfl, hb5⟩
      go_wp2_with fail
      refine (add_any _ _ (val_R _) ha _).mono ?_; rintro e w6 ⟨rfl, rfl⟩
      by_cases hm : R (a * b)
      · rw [HM.out hm]
        go_wp2_with fail
        all_goals
          go_ret
          exact ⟨rfl, hbb.trans (hb5.mono hbb.size)⟩
      · have q4 := HNM.out hm
        go_wp2_with fail
        all_goals
          go_ret
          exact ⟨rfl, hbb.trans (hb5.mono hbb.size)⟩
set_option maxHeartbeats 1000000 in
theorem bounds_walk (a b : Int) (ha : R a) (hb : R b) (w : World) :
    Calls Try.prog 3 #[.int .i64 a, .int .i64 b] w fun e w' => e = .returned (.bool true) ∧ Below w.heap.size w w' := by
  have HF := Lib.hid (half_law ha hb)
  go_enter Try.func3, Try.ntmps3
  go_wp2_with fail
  refine (alive_any _).mono ?_; rintro e w1 ⟨rfl, hb1⟩
  go_wp2_with fail
  refine (add_any _ _ ha hb _).mono ?_; rintro e w2 ⟨rfl, rfl⟩
  go_wp2_with fail
  all_goals
    go_ret
    refine ⟨ret1 ?_, hb1⟩
    obtain ⟨f1, f2⟩ := HF.out
    go_light
    clear HF
    generalize wrap64 (wrap64 (wrap64 (a.tdiv 2) + wrap64 (b.tdiv 2)) + wrap64 ((wrap64 (a.tmod 2 + b.tmod 2)).tdiv 2)) = h at *
    by_cases hr : R (a + b)
    · have f3 := f1 hr
      have f4 := err_in hr
      first | omega | (simp [f4]; try omega)
    · have f3 := f2 hr
      have f4 := err_out hr
      first | omega | (simp [f4]; try omega)
end Go.Proofs.Ytfgdgnedmhecgaa
