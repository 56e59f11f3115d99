/- A Decimal among a law's parameters: opened, and shut again. -/
import Derived.Test.YtgljbhbpjobnbaaDoorRows
import Derived.ProofKit
import Derived.OpenShut
import Derived.Lib.SmallJoins
set_option linter.unusedVariables false
namespace Go.Proofs.YtgljbhbpjobnbaaDoor
open Go.RowKit Go.WideShapes Go.ChangeShapes Go.Joins
theorem cells_money : Tryd.prog.cellsOf 23 = 2 := by kernel_rfl
section
variable {H : Type} {enc : TypeId × Value → H} {w : World} {base : Nat} {spare : Nat → Bool} {held : Bool}
set_option maxRecDepth 100000 in
theorem open_money {r : Reach} {b0 : Nat} {v : Value} {d : DataW H} {p : List MemPlace}
    (hv : Value.okWide Tryd.prog w r b0 23 v) (h : DataW.Trod enc Tryd.prog w base spare held 23 v d p) :
    ∃ m s : Int, v = .agg #[.int .i64 m, .int .i64 s] ∧ d = .agg [.lit (.int .i64 m), .lit (.int .i64 s)] ∧ p = [] ∧ (Lit.int .i64 m).wf = true ∧ (Lit.int .i64 s).wf = true := by
  obtain ⟨c0, c1, y0, y1, n, rfl, rfl, rfl, hy0, hy1⟩ := open_agg2 Tryd.underlying23 (by kernel_rfl) cells_money hv h
  obtain ⟨a, e0, rfl, wa⟩ := DataW.trod_int Tryd.underlying2 hy0
  obtain ⟨b, e1, rfl, wb⟩ := DataW.trod_int Tryd.underlying3 hy1
  simp at e0 e1
  subst e0 e1
  exact ⟨a, b, rfl, rfl, rfl, wa, wb⟩
set_option maxRecDepth 100000 in
theorem shut_money {m s : Int} (wm : (Lit.int .i64 m).wf = true) (ws : (Lit.int .i64 s).wf = true) :
    DataW.Trod enc Tryd.prog w base spare held 23 (.agg #[.int .i64 m, .int .i64 s]) (.agg [.lit (.int .i64 m), .lit (.int .i64 s)]) [] :=
  shut_agg2 (y0 := (.lit (.int .i64 m), [])) (y1 := (.lit (.int .i64 s), [])) Tryd.underlying23 (by kernel_rfl) cells_money ⟨1, by simp [DataW.trod, Tryd.underlying2, wm]⟩ ⟨1, by simp [DataW.trod, Tryd.underlying3, ws]⟩
end
end Go.Proofs.YtgljbhbpjobnbaaDoor
