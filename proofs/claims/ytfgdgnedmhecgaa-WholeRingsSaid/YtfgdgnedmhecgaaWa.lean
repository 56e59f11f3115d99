/- The walks through the sums, differences and opposites of package whole and of its reference. -/
import Derived.Test.YtfgdgnedmhecgaaRows
import Derived.Test.YtfgdgnedmhecgaaWp
import Derived.WalkKit
import Derived.WalkSpells
import Derived.Handy
import Derived.Lib.Hide
import Derived.Deep.Light
set_option linter.unusedSimpArgs false
set_option linter.unusedVariables false
namespace Go.Proofs.Ytfgdgnedmhecgaa
open Go.RowKit

set_option maxHeartbeats 400000 in
theorem add_any (a b : Int) (ha : R a) (hb : R b) (w : World) :
    Calls Try.prog 7 #[.int .i64 a, .int .i64 b] w fun e w' => e = .returned (.tuple #[.int .i64 (val (a + b)), .int .i64 (err (a + b))]) ∧ w = w' := by
  obtain ⟨ha, ha'⟩ := ha
  obtain ⟨hb, hb'⟩ := hb
  go_enter Try.func7, Try.ntmps7
  go_wp2
  all_goals
    go_ret2
    refine ⟨ret2 ?_ ?_, rfl⟩
    all_goals
      go_light
      simp only [val, err, inR, wrap64, R] at *
      (try simp at *) <;> (try split) <;> omega
set_option maxHeartbeats 400000 in
theorem sub_any (a b : Int) (ha : R a) (hb : R b) (w : World) :
    Calls Try.prog 9 #[.int .i64 a, .int .i64 b] w fun e w' => e = .returned (.tuple #[.int .i64 (val (a - b)), .int .i64 (err (a - b))]) ∧ w = w' := by
  obtain ⟨ha, ha'⟩ := ha
  obtain ⟨hb, hb'⟩ := hb
  go_enter Try.func9, Try.ntmps9
  go_wp2
  all_goals
    go_ret2
    refine ⟨ret2 ?_ ?_, rfl⟩
    all_goals
      go_light
      simp only [val, err, inR, wrap64, R] at *
      (try simp at *) <;> (try split) <;> omega
set_option maxHeartbeats 400000 in
theorem rsub_any (a b : Int) (ha : R a) (hb : R b) (w : World) :
    Calls Try.prog 11 #[.int .i64 a, .int .i64 b] w fun e w' => e = .returned (.tuple #[.int .i64 (val (a - b)), .int .i64 (err (a - b))]) ∧ w = w' := by
  obtain ⟨ha, ha'⟩ := ha
  obtain ⟨hb, hb'⟩ := hb
  go_enter Try.func11, Try.ntmps11
  go_wp2
  all_goals
    go_ret2
    refine ⟨ret2 ?_ ?_, rfl⟩
    all_goals
      go_light
      simp only [val, err, inR, wrap64, R] at *
      (try simp at *) <;> (try split) <;> omega
set_option maxHeartbeats 400000 in
theorem adds_any (a b : Int) (ha : R a) (hb : R b) (w : World) :
    Calls Try.prog 19 #[.int .i64 a, .int .i64 b] w fun e w' => e = .returned (.bool (inR (a + b))) ∧ w = w' := by
  obtain ⟨ha, ha'⟩ := ha
  obtain ⟨hb, hb'⟩ := hb
  go_enter Try.func19, Try.ntmps19
  go_wp2
  all_goals
    go_ret
    refine ⟨ret1 ?_, rfl⟩
    go_light
    simp only [inR, wrap64] at *
    rw [Bool.eq_iff_iff]
    (try simp at *) <;> omega
set_option maxHeartbeats 400000 in
theorem radd_any (a b : Int) (ha : R a) (hb : R b) (w : World) :
    Calls Try.prog 10 #[.int .i64 a, .int .i64 b] w fun e w' => e = .returned (.tuple #[.int .i64 (val (a + b)), .int .i64 (err (a + b))]) ∧ w = w' := by
  have HS := Lib.hid (show inR (a + b) = false ∨ wrap64 (a + b) = a + b by simp [inR, wrap64]; omega)
  go_enter Try.func10, Try.ntmps10
  go_wp2_with ((refine (adds_any _ _ ha hb _).mono ?_); rintro e w' ⟨rfl, rfl⟩)
  all_goals
    go_ret2
    refine ⟨ret2 ?_ ?_, rfl⟩
    all_goals
      have hs := HS.out
      go_light
      simp only [val, err, inR, wrap64] at *
      (try simp at *) <;> (try split) <;> omega
set_option maxHeartbeats 400000 in
theorem neg_any (a : Int) (ha : R a) (w : World) :
    Calls Try.prog 13 #[.int .i64 a] w fun e w' => e = .returned (.tuple #[.int .i64 (val (-a)), .int .i64 (err (-a))]) ∧ w = w' := by
  go_enter Try.func13, Try.ntmps13
  go_wp2_with ((refine (sub_any _ _ (by unfold R; omega) ha _).mono ?_); rintro e w' ⟨rfl, rfl⟩)
  go_ret2
  exact ⟨rfl, rfl⟩
set_option maxHeartbeats 400000 in
theorem rneg_any (a : Int) (ha : R a) (w : World) :
    Calls Try.prog 14 #[.int .i64 a] w fun e w' => e = .returned (.tuple #[.int .i64 (val (-a)), .int .i64 (err (-a))]) ∧ w = w' := by
  go_enter Try.func14, Try.ntmps14
  go_wp2_with ((refine (rsub_any _ _ (by unfold R; omega) ha _).mono ?_); rintro e w' ⟨rfl, rfl⟩)
  go_ret2
  exact ⟨rfl, rfl⟩
set_option maxHeartbeats 400000 in
theorem is_any (a b c d : Int) (w : World) :
    Calls Try.prog 15 #[.int .i64 a, .int .i64 b, .int .i64 c, .int .i64 d] w fun e w' => e = .returned (.bool (a == c && b == d)) ∧ w = w' := by
  go_enter Try.func15, Try.ntmps15
  go_wp2
  all_goals
    go_ret
    refine ⟨ret1 ?_, rfl⟩
    go_light
    simp_all
end Go.Proofs.Ytfgdgnedmhecgaa
