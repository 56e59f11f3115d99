/- The walk through the reference's Check (provostref01). -/
import Derived.Test.YtglhanblbojkhaaGreatDoorTx
set_option linter.unusedSimpArgs false
set_option linter.unusedVariables false
namespace Go.Proofs.YtglhanblbojkhaaGreatDoor
open Go.RowKit Go.Lib
set_option maxRecDepth 100000 in
theorem rcheck01_any (s : ByteArray) (hs : s.size ≤ 1000000) (w : World) :
    Calls Tryz.prog 24 #[.string s] w fun e w' => e = .returned (.int .i64 (chkE s.data.toList)) ∧ Below w.heap.size w w' := by
  unfold chkE
  rw [show s.data.toList.length = s.size from by rw [Array.length_toList]; rfl]
  by_cases h : 16384 < s.size
  · rw [if_pos h]
    go_enter Tryz.func24, Tryz.ntmps24
    go_wp2_with fail
    go_ret
    exact ⟨rfl, Below.refl _ _⟩
  · rw [if_neg h]
    have H1 := Lib.hid (fun w => rpoints_any s (by omega) w)
    have h2 : s.size ≤ 16384 := by omega
    clear h
    generalize validD s.data.toList = r at *
    cases r
    all_goals
      go_enter Tryz.func24, Tryz.ntmps24
      go_wp2_with fail
      refine (H1.out _).mono ?_; rintro e w1 ⟨v, rfl, _, hb⟩
      go_wp2_with fail
      go_ret
      exact ⟨rfl, hb⟩
end Go.Proofs.YtglhanblbojkhaaGreatDoor
