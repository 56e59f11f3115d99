/- The walk through the reference's test on sums (provostref02.Adds). -/
import Derived.Test.YtgljbhbpjobnbaaDoorRows
import Derived.Test.YtgljbhbpjobnbaaDoorWp
import Derived.WalkKit
import Derived.WalkSpells
import Derived.Handy
import Derived.Lib.Hide
import Derived.Deep.Light
set_option linter.unusedSimpArgs false
set_option linter.unusedVariables false
namespace Go.Proofs.YtgljbhbpjobnbaaDoor
open Go.RowKit

set_option maxHeartbeats 400000 in
theorem adds_any (a b : Int) (ha : R a) (hb : R b) (w : World) :
    Calls Tryd.prog 27 #[.int .i64 a, .int .i64 b] w fun e w' => e = .returned (.bool (inR (a + b))) ∧ w = w' := by
  obtain ⟨ha, ha'⟩ := ha
  obtain ⟨hb, hb'⟩ := hb
  go_enter Tryd.func27, Tryd.ntmps27
  go_wp2
  all_goals
    go_ret
    refine ⟨ret1 ?_, rfl⟩
    go_light
    simp only [inR, wrap64] at *
    rw [Bool.eq_iff_iff]
    (try simp at *) <;> omega
end Go.Proofs.YtgljbhbpjobnbaaDoor
