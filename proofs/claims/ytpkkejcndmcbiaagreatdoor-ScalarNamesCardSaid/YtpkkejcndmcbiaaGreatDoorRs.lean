/- Whether a number is small (whole, provostref02). -/
import Derived.Test.YtpkkejcndmcbiaaGreatDoorRows
import Derived.Test.YtpkkejcndmcbiaaGreatDoorRp
import Derived.WalkKit
import Derived.WalkSpells
import Derived.Handy
import Derived.Lib.Hide
import Derived.Deep.Light
import Derived.Lib.ItoaLen
set_option linter.unusedSimpArgs false
set_option linter.unusedVariables false
namespace Go.Proofs.YtpkkejcndmcbiaaGreatDoor
open Go.RowKit

set_option maxHeartbeats 400000 in
theorem small_any (n : Int) (hr : R n) (w : World) :
    Calls Tryz.prog 50 #[.int .i64 n] w fun e w' => e = .returned (.bool (decide (-2147483648 ≤ n ∧ n ≤ 2147483647))) ∧ w = w' := by
  obtain ⟨r1, r2⟩ := hr
  go_enter Tryz.func50, Tryz.ntmps50
  go_wp2
  all_goals
    go_ret
    refine ⟨ret1 ?_, rfl⟩
    go_light
    rw [Bool.eq_iff_iff]
    simp only [IntKind.wrap_i32, IntKind.wrap_i64, wrap64, wrap32]
    (try simp at *) <;> omega
end Go.Proofs.YtpkkejcndmcbiaaGreatDoor
