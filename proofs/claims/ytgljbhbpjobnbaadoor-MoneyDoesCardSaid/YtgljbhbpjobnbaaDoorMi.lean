/- The walk through a text's Decimal (money: Parse). -/
import Derived.Test.YtgljbhbpjobnbaaDoorRc
import Derived.Test.YtgljbhbpjobnbaaDoorMe
import Derived.Test.YtgljbhbpjobnbaaDoorCu
import Derived.Deep.LoopGhost
set_option linter.unusedSimpArgs false
set_option linter.unusedVariables false
namespace Go.Proofs.YtgljbhbpjobnbaaDoor
open Go.RowKit
theorem own2d {w w1 : World} {x y : Value} {t : TypeId} {n : Nat} (hb : Below ((w.alloc (.cells #[x, y] t)).drewN n).heap.size ((w.alloc (.cells #[x, y] t)).drewN n) w1) :
    w1.cell? ⟨w.heap.size, 0, none⟩ = some x ∧ w1.cell? ⟨w.heap.size, 1, none⟩ = some y ∧ w1.frozen? ⟨w.heap.size, 0, none⟩ = false ∧ w1.frozen? ⟨w.heap.size, 1, none⟩ = false ∧ w.heap.size < w1.heap.size ∧ Below w.heap.size w w1 :=
  own2 ((below_drewN' (w.alloc (.cells #[x, y] t)).heap.size (w.alloc (.cells #[x, y] t)) n).trans hb)
/-- One block of two cells, its own, behind a call that only makes blocks. -/
theorem keep1 {w W w1 : World} {b : Nat} {x y : Value} (hb : Below W.heap.size W w1) (h : W.cell? ⟨b, 0, none⟩ = some x ∧ W.cell? ⟨b, 1, none⟩ = some y ∧ W.frozen? ⟨b, 0, none⟩ = false ∧ W.frozen? ⟨b, 1, none⟩ = false ∧ b < W.heap.size ∧ Below w.heap.size w W) :
    w1.cell? ⟨b, 0, none⟩ = some x ∧ w1.cell? ⟨b, 1, none⟩ = some y ∧ w1.frozen? ⟨b, 0, none⟩ = false ∧ w1.frozen? ⟨b, 1, none⟩ = false ∧ b < w1.heap.size ∧ Below w.heap.size w w1 := by
  obtain ⟨h0, h1, h2, h3, h4, h5⟩ := h
  obtain ⟨cc, ff⟩ := bcell hb
  exact ⟨(cc _ _ h4).trans h0, (cc _ _ h4).trans h1, (ff _ _ h4).trans h2, (ff _ _ h4).trans h3, Nat.lt_of_lt_of_le h4 hb.size, h5.trans (hb.mono h5.size)⟩
end Go.Proofs.YtgljbhbpjobnbaaDoor
