/- The law's own function tells (provostlaw15). -/
import Derived.Test.YtcocjmbhbddgiaaGreatDoorBf
set_option linter.unusedSimpArgs false
set_option linter.unusedVariables false
namespace Go.Proofs.YtcocjmbhbddgiaaGreatDoor
open Go.RowKit
set_option maxRecDepth 100000 in
theorem tells_yes (s sc us ho po pa qu : ByteArray) (hu hq : Bool) (H1 : Hid (Does 5 #[.string s] (.tuple #[.agg #[.string sc, .string us, .string ho, .string po, .string pa, .string qu, .bool hu, .bool hq], .int .i64 0]))) (w : World) :
    Calls Tryz.prog 24 #[.string s, .agg #[.string sc, .string us, .string ho, .string po, .string pa, .string qu, .bool hu, .bool hq]] w fun e w' => e = .returned (.bool true) ∧ Below w.heap.size w w' := by
  go_enter Tryz.func24, Tryz.ntmps24
  go_wp2_with fail
  refine (H1.out _).mono ?_; rintro e w1 ⟨rfl, hb1⟩
  have hst := KS.below hb1 (KS.start sc us ho po pa qu hu hq w)
  obtain ⟨a0, a1, a2, a3, a4, a5, a6, a7, hl, hw⟩ := hst
  clear hb1
  go_wp2_with fail
  go_ret
  exact ⟨rfl, hw.alloc hw.size _⟩
end Go.Proofs.YtcocjmbhbddgiaaGreatDoor
