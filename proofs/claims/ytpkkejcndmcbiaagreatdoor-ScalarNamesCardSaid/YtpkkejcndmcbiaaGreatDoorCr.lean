/- Cells in a row: what a slice of them holds. -/
import Derived.Test.YtpkkejcndmcbiaaGreatDoorCp
import Derived.Test.YtpkkejcndmcbiaaGreatDoorSb
set_option linter.unusedSimpArgs false
set_option linter.unusedVariables false
namespace Go.Proofs.YtpkkejcndmcbiaaGreatDoor
open Go.RowKit
theorem ret_i {a c : Int} (h : a = c) : Ending.returned (.int .i64 a) = .returned (.int .i64 c) := by rw [h]
theorem below_dN {B : Nat} {w w1 : World} (n : Nat) (h : Below B w w1) : Below B w (w1.drewN n) := h.trans ⟨rfl, rfl, rfl, Nat.le_refl _, fun _ _ => rfl⟩
theorem lt_of_cell {W : World} {b o : Nat} {v : Value} (h : W.cell? ⟨b, o, none⟩ = some v) : b < W.heap.size := by
  rcases Nat.lt_or_ge b W.heap.size with h' | h'
  · exact h'
  · exfalso
    have : W.heap[b]? = none := Array.getElem?_eq_none h'
    simp [World.cell?, this] at h
theorem heap_lt {b : Nat} {W : World} {o : Obj} (h : W.heap[b]? = some o) : b < W.heap.size := (Array.getElem?_eq_some_iff.1 h).1
theorem heap_old {b : Nat} {W : World} {o o' : Obj} (h : W.heap[b]? = some o) : (W.alloc o').heap[b]? = some o := by
  rw [Below.heap_alloc _ _ _ (Array.getElem?_eq_some_iff.1 h).1]; exact h
theorem heap_new (W : World) (o : Obj) (b : Nat) (hb : b = W.heap.size) : (W.alloc o).heap[b]? = some o := by rw [hb]; exact heap_alloc_new W o
/-- A cell's five values. -/
def celCells (c : Cel) : Array Value := #[.int .u8 (c.kind.toNat : Int), .string ⟨c.name.toArray⟩, .string ⟨c.text.toArray⟩, .int .i64 c.num, .int .i64 c.many]
/-- Cells that stand in a row from a place of a block on. -/
def CelRow (b off : Nat) (V : List Cel) (W : World) : Prop := ∀ (k : Nat) (h : k < V.length), W.cell? ⟨b, off + k * 5, none⟩ = some (.int .u8 (V[k].kind.toNat : Int)) ∧ W.cell? ⟨b, off + k * 5 + 1, none⟩ = some (.string ⟨V[k].name.toArray⟩) ∧ W.cell? ⟨b, off + k * 5 + 2, none⟩ = some (.string ⟨V[k].text.toArray⟩) ∧ W.cell? ⟨b, off + k * 5 + 3, none⟩ = some (.int .i64 V[k].num) ∧ W.cell? ⟨b, off + k * 5 + 4, none⟩ = some (.int .i64 V[k].many)
theorem CelRow.below {b off : Nat} {V : List Cel} {w w' : World} {B : Nat} (h : CelRow b off V w) (hb : Below B w w') (hlt : b < B) : CelRow b off V w' := by
  intro k hk
  obtain ⟨h0, h1, h2, h3, h4⟩ := h k hk
  exact ⟨(hb.cell (p := ⟨b, _, none⟩) hlt).trans h0, (hb.cell (p := ⟨b, _, none⟩) hlt).trans h1, (hb.cell (p := ⟨b, _, none⟩) hlt).trans h2, (hb.cell (p := ⟨b, _, none⟩) hlt).trans h3, (hb.cell (p := ⟨b, _, none⟩) hlt).trans h4⟩
theorem CelRow.below' {b off : Nat} {V : List Cel} {w w' : World} (h : CelRow b off V w) (hb : Below w.heap.size w w') : CelRow b off V w' := by
  intro k hk
  exact h.below hb (lt_of_cell (h k hk).1) k hk
theorem CelRow.lt {b off : Nat} {V : List Cel} {w : World} (h : CelRow b off V w) (hV : 0 < V.length) : b < w.heap.size := lt_of_cell (h 0 hV).1
/-- A slice that reads as cells. -/
def CelSl (v : Value) (V : List Cel) (W : World) : Prop := (∃ a cap, v = .slice a 0 cap ∧ V = [] ∧ (a = none → cap = 0)) ∨ ∃ b off cap, v = .slice (some ⟨b, off, none⟩) V.length cap ∧ CelRow b off V W ∧ 0 < V.length
theorem CelSl.below {v : Value} {V : List Cel} {w w' : World} (h : CelSl v V w) (hb : Below w.heap.size w w') : CelSl v V w' := by
  rcases h with h | ⟨b, off, cap, h1, h2, h3⟩
  · exact Or.inl h
  · exact Or.inr ⟨b, off, cap, h1, h2.below' hb, h3⟩
/-- Cells that a statement goes through. -/
def SmallV (V : List Cel) : Prop := V.length ≤ 100000 ∧ ∀ c ∈ V, c.name.length ≤ 100000 ∧ c.text.length ≤ 100000 ∧ R c.num ∧ R c.many
end Go.Proofs.YtpkkejcndmcbiaaGreatDoor
