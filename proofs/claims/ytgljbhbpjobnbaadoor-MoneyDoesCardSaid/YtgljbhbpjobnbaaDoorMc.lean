/- The walk through the order of two numbers of two words (money: than). -/
import Derived.Test.YtgljbhbpjobnbaaDoorMb
set_option linter.unusedSimpArgs false
set_option linter.unusedVariables false
namespace Go.Proofs.YtgljbhbpjobnbaaDoor
open Go.RowKit
set_option maxRecDepth 100000 in
set_option maxHeartbeats 1000000 in
theorem than_any (a b c d : Int) (w : World) :
    Calls Tryd.prog 28 #[.agg #[.int .u64 a, .int .u64 b], .agg #[.int .u64 c, .int .u64 d]] w fun e w' => e = .returned (.int .i64 (orI (cmpI a c) (cmpI b d))) ∧ Below w.heap.size w w' := by
  go_enter Tryd.func28, Tryd.ntmps28
  go_wp2_with fail
  go_region_held3 (fun W => W.cell? ⟨w.heap.size, 0, none⟩ = some (.int .u64 a) ∧ W.cell? ⟨w.heap.size, 1, none⟩ = some (.int .u64 b) ∧ W.cell? ⟨w.heap.size + 1, 0, none⟩ = some (.int .u64 c) ∧ W.cell? ⟨w.heap.size + 1, 1, none⟩ = some (.int .u64 d) ∧ w.heap.size + 1 < W.heap.size ∧ Below w.heap.size w W)
     (first | assumption | (refine ⟨by simp [go_sem], by simp [go_sem], by simp [go_sem], by simp [go_sem], by simp, ?_⟩; go_grown; done))
     (first | ((with_reducible refine (ccmp_any _ _ _).mono ?_); rintro e w1 ⟨rfl, rfl⟩) | (go_at_call 43; refine (cor_any (w.heap.size + 1 + 1) (cmpI a c) (cmpI b d) _ (by simp [go_sem]) (by simp [go_sem])).mono ?_; rintro e w1 ⟨rfl, rfl⟩))
  all_goals
    go_wp2
    go_ret
    refine ⟨rfl, ?_⟩
    go_grown
end Go.Proofs.YtgljbhbpjobnbaaDoor
