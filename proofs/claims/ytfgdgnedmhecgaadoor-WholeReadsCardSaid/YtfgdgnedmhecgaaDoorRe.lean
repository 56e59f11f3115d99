/- What the rows' condition on the library's variables gives the walks. -/
import Derived.Test.YtfgdgnedmhecgaaDoorRows
import Derived.Test.YtfgdgnedmhecgaaDoorRc
import Derived.Stop.LaidErr
import Derived.Lib.LaidTab
import Derived.MakeChecks
set_option linter.unusedVariables false
namespace Go.Proofs.YtfgdgnedmhecgaaDoor
open Go.RowKit

theorem range_row (u : TypeId) (h : Tryd.prog.typeName? 3 u = some "*errors.errorString") : u = 101 :=
  typeName_ptr_named (nm := "errors.errorString") (by kernel_rfl) (by kernel_rfl) (by decide) u h
theorem env_of_laid (W : World) (h : laidMetH Tryd.prog Rows.wholeReadsRow.laid W) : Env W := by
  rw [MakeChecks.laidMetH_plain _ _ _ (by kernel_rfl)] at h
  refine ⟨?_, ?_⟩
  · exact Lib.tabIs_of_head (g := 2) (by kernel_rfl) (by kernel_rfl) Tryd.underlying88 Tryd.underlying36 (by kernel_rfl) (by kernel_rfl) h.tail.tail
  · obtain ⟨a, s, hv, _⟩ := laid_sentinel (g := 1) h.tail.tail.tail.tail (by kernel_rfl) (by kernel_rfl) Tryd.underlying43 range_row Tryd.underlying101 Tryd.underlying103 rfl rfl Tryd.underlying9 (by kernel_rfl) (by kernel_rfl)
    exact ⟨_, _, hv⟩
end Go.Proofs.YtfgdgnedmhecgaaDoor
