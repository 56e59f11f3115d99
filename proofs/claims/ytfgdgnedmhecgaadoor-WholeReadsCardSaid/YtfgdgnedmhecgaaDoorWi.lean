/- The walk through the layer's 'is' (provostlaw02). -/
import Derived.Test.YtfgdgnedmhecgaaDoorRows
import Derived.Test.YtfgdgnedmhecgaaDoorWp
import Derived.WalkKit
import Derived.WalkSpells
import Derived.Handy
import Derived.Lib.Hide
import Derived.Deep.Light
set_option linter.unusedSimpArgs false
set_option linter.unusedVariables false
namespace Go.Proofs.YtfgdgnedmhecgaaDoor
open Go.RowKit

set_option maxHeartbeats 400000 in
theorem is_any (a b c d : Int) (w : World) :
    Calls Tryd.prog 16 #[.int .i64 a, .int .i64 b, .int .i64 c, .int .i64 d] w fun e w' => e = .returned (.bool (a == c && b == d)) ∧ w = w' := by
  go_enter Tryd.func16, Tryd.ntmps16
  go_wp2
  all_goals
    go_ret
    refine ⟨ret1 ?_, rfl⟩
    go_light
    simp_all
end Go.Proofs.YtfgdgnedmhecgaaDoor
