/- The reference's JSON reader (provostref04): what it holds; look. -/
import Derived.Test.YtglhanblbojkhaaGreatDoorCr
import Derived.Test.YtglhanblbojkhaaGreatDoorJr
import Derived.Test.YtglhanblbojkhaaGreatDoorTv
set_option linter.unusedSimpArgs false
set_option linter.unusedVariables false
namespace Go.Proofs.YtglhanblbojkhaaGreatDoor
open Go.RowKit
/-- All older blocks but one stay. -/
def RK (r : Nat) (W W' : World) : Prop := Below r W W' ∧ ∀ (k : Nat) (o : Obj), W.heap[k]? = some o → k ≠ r → W'.heap[k]? = some o
theorem RK.refl (r : Nat) (W : World) : RK r W W := ⟨Below.refl _ _, fun _ _ h _ => h⟩
theorem RK.trans {r : Nat} {W W' W'' : World} (h : RK r W W') (h' : RK r W' W'') : RK r W W'' := ⟨h.1.trans h'.1, fun k o hk hne => h'.2 k o (h.2 k o hk hne) hne⟩
theorem RK.of_below {r : Nat} {W W' : World} (h : Below W.heap.size W W') (hr : r < W.heap.size) : RK r W W' := ⟨h.mono (Nat.le_of_lt hr), fun k o hk _ => (h.block k (heap_lt hk)).trans hk⟩
theorem pset {b i : Nat} {W : World} {A A' : Array Value} {T : TypeId} (h : W.heap[b]? = some (.cells A T (0, 0))) (v : Value) (hA : A.setIfInBounds i v = A') : (W.setCell ⟨b, i, none⟩ v).heap[b]? = some (.cells A' T (0, 0)) := by
  subst hA
  have hlt : b < W.heap.size := (Array.getElem?_eq_some_iff.1 h).1
  simp only [World.setCell, Array.getElem?_modify]
  simp [h]
theorem RK.set (r i : Nat) (W : World) (v : Value) : RK r W (W.setCell ⟨r, i, none⟩ v) := by
  refine ⟨(Below.refl r W).setCell (p := ⟨r, i, none⟩) (Nat.le_refl _) v, fun k o hk hne => ?_⟩
  rw [Below.heap_setCell _ _ _ _ hne]; exact hk
/-- The reference's reader. -/
def RdR (r : Nat) (s : ByteArray) (at_ : Nat) (v : Value) (e : Int) (W : World) : Prop := W.heap[r]? = some (.cells #[.string s, .int .i64 (at_ : Int), v, .int .i64 e] 54 (0, 0))
theorem RdR.cells {r : Nat} {s : ByteArray} {at_ : Nat} {v : Value} {e : Int} {W : World} (h : RdR r s at_ v e W) :
    W.cell? ⟨r, 0, none⟩ = some (.string s) ∧ W.cell? ⟨r, 1, none⟩ = some (.int .i64 (at_ : Int)) ∧ W.cell? ⟨r, 2, none⟩ = some v ∧ W.cell? ⟨r, 3, none⟩ = some (.int .i64 e) := by
  unfold RdR at h
  refine ⟨?_, ?_, ?_, ?_⟩
  all_goals (rw [Lib.cell_of_heap h]; rfl)
theorem RdR.below {r : Nat} {s : ByteArray} {at_ : Nat} {v : Value} {e : Int} {W W' : World} (h : RdR r s at_ v e W) (hb : Below W.heap.size W W') : RdR r s at_ v e W' := (hb.block r (heap_lt h)).trans h
theorem RdR.lt {r : Nat} {s : ByteArray} {at_ : Nat} {v : Value} {e : Int} {W : World} (h : RdR r s at_ v e W) : r < W.heap.size := heap_lt h
theorem RdR.frozen {r : Nat} {s : ByteArray} {at_ : Nat} {v : Value} {e : Int} {W : World} (h : RdR r s at_ v e W) (i : Nat) : W.frozen? ⟨r, i, none⟩ = false := Lib.frozen_of_heap h i
theorem RdR.at_ {r : Nat} {s : ByteArray} {at_ : Nat} {v : Value} {e : Int} {W : World} (h : RdR r s at_ v e W) (a : Nat) : RdR r s a v e (W.setCell ⟨r, 1, none⟩ (.int .i64 (a : Int))) := pset h _ rfl
theorem RdR.err {r : Nat} {s : ByteArray} {at_ : Nat} {v : Value} {e : Int} {W : World} (h : RdR r s at_ v e W) (a : Int) : RdR r s at_ v a (W.setCell ⟨r, 3, none⟩ (.int .i64 a)) := pset h _ rfl
/-- What look answers. -/
def lookJ (e : Int) (l : List UInt8) : UInt8 := if e ≠ 0 then 0 else l.headD 0
set_option maxRecDepth 100000 in
theorem rlook_err (r : Nat) (s : ByteArray) (at_ : Nat) (v : Value) (e : Int) (he : ¬ e = 0) (w : World) (h : RdR r s at_ v e w) :
    Calls Tryz.prog 48 #[.pointer (some ⟨r, 0, none⟩)] w fun x w' => x = .returned (.int .u8 0) ∧ Below w.heap.size w w' := by
  obtain ⟨c0, c1, c2, c3⟩ := h.cells
  have he2 : (e != 0) = true := bne_iff_ne.2 he
  go_enter Tryz.func48, Tryz.ntmps48
  go_wp2_with fail
  go_quiet (fail)
  go_wp2_with fail
  go_ret
  exact ⟨rfl, below_dN _ (Below.refl _ _)⟩
set_option maxRecDepth 100000 in
theorem rlook_end (r : Nat) (s : ByteArray) (at_ : Nat) (v : Value) (ha : at_ = s.size) (hs : s.size ≤ 1000000) (w : World) (h : RdR r s at_ v 0 w) :
    Calls Tryz.prog 48 #[.pointer (some ⟨r, 0, none⟩)] w fun x w' => x = .returned (.int .u8 0) ∧ Below w.heap.size w w' := by
  obtain ⟨c0, c1, c2, c3⟩ := h.cells
  have hge : decide (s.size ≤ at_) = true := decide_eq_true (by omega)
  go_enter Tryz.func48, Tryz.ntmps48
  go_wp2_with fail
  go_quiet (fail)
  go_wp2_with fail
  go_ret
  exact ⟨rfl, below_dN _ (Below.refl _ _)⟩
set_option maxRecDepth 100000 in
theorem rlook_at (r : Nat) (s : ByteArray) (at_ : Nat) (v : Value) (ha : at_ < s.size) (hs : s.size ≤ 1000000) (w : World) (h : RdR r s at_ v 0 w) :
    Calls Tryz.prog 48 #[.pointer (some ⟨r, 0, none⟩)] w fun x w' => x = .returned (.int .u8 (s[at_].toNat : Int)) ∧ Below w.heap.size w w' := by
  obtain ⟨c0, c1, c2, c3⟩ := h.cells
  have hge : decide (s.size ≤ at_) = false := decide_eq_false (by omega)
  go_enter Tryz.func48, Tryz.ntmps48
  go_wp2_with fail
  go_quiet (fail)
  go_wp2_with fail
  go_quiet (fail)
  go_wp2_with fail
  go_ret
  exact ⟨rfl, below_dN _ (below_dN _ (Below.refl _ _))⟩
end Go.Proofs.YtglhanblbojkhaaGreatDoor
