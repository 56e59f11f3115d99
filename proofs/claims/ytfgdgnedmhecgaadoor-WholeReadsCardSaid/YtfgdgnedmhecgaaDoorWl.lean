import Derived.Test.YtfgdgnedmhecgaaDoorWa
import Derived.Test.YtfgdgnedmhecgaaDoorWc
import Derived.Test.YtfgdgnedmhecgaaDoorWi
set_option linter.unusedSimpArgs false
set_option linter.unusedVariables false
namespace Go.Proofs.YtfgdgnedmhecgaaDoor
open Go.RowKit
theorem is_yes (a b c d : Int) (h : a = c) (h' : b = d) (w : World) :
    Calls Tryd.prog 16 #[.int .i64 a, .int .i64 b, .int .i64 c, .int .i64 d] w fun e w' => e = .returned (.bool true) ∧ w = w' :=
  (is_any a b c d w).mono fun e w' ⟨he, hw⟩ => ⟨by rw [he, h, h']; simp, hw⟩
set_option maxHeartbeats 1000000 in
theorem alive_any (w : World) :
    Calls Tryd.prog 12 #[] w fun e w' => e = .returned (.bool true) ∧ Below w.heap.size w w' := by
  go_enter Tryd.func12, Tryd.ntmps12
  go_wp2_with fail
  refine (add_any _ _ (by unfold R; omega) (by unfold R; omega) _).mono ?_; rintro e w1 ⟨rfl, rfl⟩
  go_wp2_with fail
  refine (add_any _ _ (by unfold R; omega) (by unfold R; omega) _).mono ?_; rintro e w1 ⟨rfl, rfl⟩
  go_wp2_with fail
  refine (mul_any _ _ (by unfold R; omega) (by unfold R; omega) _).mono ?_; rintro e w1 ⟨rfl, hb⟩
  go_wp2_with fail
  refine (is_yes _ _ _ _ (by decide) (by decide) _).mono ?_; rintro e w1 ⟨rfl, rfl⟩
  go_wp2_with fail
  refine (is_yes _ _ _ _ (by decide) (by decide) _).mono ?_; rintro e w1 ⟨rfl, rfl⟩
  go_wp2_with fail
  refine (is_yes _ _ _ _ (by decide) (by decide) _).mono ?_; rintro e w1 ⟨rfl, rfl⟩
  go_wp2
  go_ret
  exact ⟨rfl, hb⟩
end Go.Proofs.YtfgdgnedmhecgaaDoor
