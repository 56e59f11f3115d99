/- The walks through the sums, differences and opposites of package whole and of its reference. -/
import Derived.Test.YtfgdgnedmhecgaaDoorRows
import Derived.Test.YtfgdgnedmhecgaaDoorWp
import Derived.WalkKit
import Derived.WalkSpells
import Derived.Handy
import Derived.Lib.Hide
import Derived.Deep.Light
set_option linter.unusedSimpArgs false
set_option linter.unusedVariables false
namespace Go.Proofs.YtfgdgnedmhecgaaDoor
open Go.RowKit

set_option maxHeartbeats 400000 in
theorem add_any (a b : Int) (ha : R a) (hb : R b) (w : World) :
    Calls Tryd.prog 25 #[.int .i64 a, .int .i64 b] w fun e w' => e = .returned (.tuple #[.int .i64 (val (a + b)), .int .i64 (err (a + b))]) ∧ w = w' := by
  obtain ⟨ha, ha'⟩ := ha
  obtain ⟨hb, hb'⟩ := hb
  go_enter Tryd.func25, Tryd.ntmps25
  go_wp2
  all_goals
    go_ret2
    refine ⟨ret2 ?_ ?_, rfl⟩
    all_goals
      go_light
      simp only [val, err, inR, wrap64, R] at *
      (try simp at *) <;> (try split) <;> omega
set_option maxHeartbeats 400000 in
theorem sub_any (a b : Int) (ha : R a) (hb : R b) (w : World) :
    Calls Tryd.prog 28 #[.int .i64 a, .int .i64 b] w fun e w' => e = .returned (.tuple #[.int .i64 (val (a - b)), .int .i64 (err (a - b))]) ∧ w = w' := by
  obtain ⟨ha, ha'⟩ := ha
  obtain ⟨hb, hb'⟩ := hb
  go_enter Tryd.func28, Tryd.ntmps28
  go_wp2
  all_goals
    go_ret2
    refine ⟨ret2 ?_ ?_, rfl⟩
    all_goals
      go_light
      simp only [val, err, inR, wrap64, R] at *
      (try simp at *) <;> (try split) <;> omega
set_option maxHeartbeats 400000 in
theorem adds_any (a b : Int) (ha : R a) (hb : R b) (w : World) :
    Calls Tryd.prog 23 #[.int .i64 a, .int .i64 b] w fun e w' => e = .returned (.bool (inR (a + b))) ∧ w = w' := by
  obtain ⟨ha, ha'⟩ := ha
  obtain ⟨hb, hb'⟩ := hb
  go_enter Tryd.func23, Tryd.ntmps23
  go_wp2
  all_goals
    go_ret
    refine ⟨ret1 ?_, rfl⟩
    go_light
    simp only [inR, wrap64] at *
    rw [Bool.eq_iff_iff]
    (try simp at *) <;> omega
set_option maxHeartbeats 400000 in
theorem neg_any (a : Int) (ha : R a) (w : World) :
    Calls Tryd.prog 15 #[.int .i64 a] w fun e w' => e = .returned (.tuple #[.int .i64 (val (-a)), .int .i64 (err (-a))]) ∧ w = w' := by
  go_enter Tryd.func15, Tryd.ntmps15
  go_wp2_with ((refine (sub_any _ _ (by unfold R; omega) ha _).mono ?_); rintro e w' ⟨rfl, rfl⟩)
  go_ret2
  exact ⟨rfl, rfl⟩
end Go.Proofs.YtfgdgnedmhecgaaDoor
