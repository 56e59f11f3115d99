/- The readers of scalar's table: told, digits, number, a Boolean's: over contracts. -/
import Derived.Test.YtpkkejcndmcbiaaGreatDoorIe
import Derived.Test.YtpkkejcndmcbiaaGreatDoorRs
import Derived.RegionTactic
set_option linter.unusedSimpArgs false
set_option linter.unusedVariables false
namespace Go.Proofs.YtpkkejcndmcbiaaGreatDoor
open Go.RowKit Go.Shelf
/-- What a call gives in every world behind this one. -/
def DoesU (w : World) (f : Nat) (args : Array Value) (v : Value) : Prop := ∀ W, Below w.heap.size w W → Calls Tryz.prog f args W fun e w' => e = .returned v ∧ Below W.heap.size W w'
theorem DoesU.below {w w' : World} {f : Nat} {args : Array Value} {v : Value} (h : DoesU w f args v) (hb : Below w.heap.size w w') : DoesU w' f args v := fun W hW => h W (hb.trans (hW.mono hb.size))
set_option maxRecDepth 100000 in
set_option maxHeartbeats 4000000 in
theorem told_kind (k : Int) (nm tx : ByteArray) (n m : Int) (p : Nat) (w : World) (hk : (k != 3) = true) :
    Calls Tryz.prog 52 #[.agg #[.int .u8 k, .string nm, .string tx, .int .i64 n, .int .i64 m], .pointer (some ⟨p, 0, none⟩)] w fun e w' => e = .returned (.tuple #[.agg #[.int .u8 k, .string nm, .string tx, .int .i64 n, .int .i64 m], .bool false]) ∧ Below w.heap.size w w' := by
  go_enter Tryz.func52, Tryz.ntmps52
  go_wp2_with fail
  go_returns
  exact ⟨rfl, by go_grown⟩
set_option maxRecDepth 100000 in
set_option maxHeartbeats 4000000 in
theorem told_bad (nm tx : ByteArray) (n m : Int) (p : Nat) (c : Int) (w : World) (hc : (c != 0) = true) (HC : Hid (DoesU w 22 #[.string tx] (.int .i64 c))) :
    Calls Tryz.prog 52 #[.agg #[.int .u8 3, .string nm, .string tx, .int .i64 n, .int .i64 m], .pointer (some ⟨p, 0, none⟩)] w fun e w' => e = .returned (.tuple #[.agg #[.int .u8 3, .string nm, .string tx, .int .i64 n, .int .i64 m], .bool false]) ∧ Below w.heap.size w w' := by
  go_enter Tryz.func52, Tryz.ntmps52
  go_wp2_with fail
  refine (HC.out _ (by first | exact Below.refl _ _ | (go_grown; done))).mono ?_; rintro e w1 ⟨rfl, hb⟩
  have hh0 : w1.heap[w.heap.size]? = some (.cells #[.int .u8 3, .string nm, .string tx, .int .i64 n, .int .i64 m] 26 (0, 0)) := (hb.block _ (by first | omega | (simp; done) | (simp; omega))).trans (heap_old (o' := (.cells #[.int .u8 0, .string ⟨#[]⟩, .string ⟨#[]⟩, .int .i64 0, .int .i64 0] 26 (0, 0))) (heap_new _ _ _ (by first | rfl | simp)))
  have hh1 : w1.heap[w.heap.size + 1]? = some (.cells #[.int .u8 0, .string ⟨#[]⟩, .string ⟨#[]⟩, .int .i64 0, .int .i64 0] 26 (0, 0)) := (hb.block _ (by first | omega | (simp; done) | (simp; omega))).trans (heap_new _ _ _ (by first | rfl | simp))
  have hbw1 : Below w.heap.size w w1 := (show Below w.heap.size w _ by first | exact Below.refl _ _ | (go_grown; done)).trans (hb.mono (by first | omega | (simp; done) | (simp; omega)))
  clear hb
  have HH0_1 := Lib.hid hh0
  have lt0 := heap_lt hh0
  have c0_0 : w1.cell? ⟨w.heap.size, 0, none⟩ = some (.int .u8 3) := by rw [Lib.cell_of_heap hh0]; rfl
  have f0_0 : w1.frozen? ⟨w.heap.size, 0, none⟩ = false := Lib.frozen_of_heap hh0 0
  have c0_1 : w1.cell? ⟨w.heap.size, 1, none⟩ = some (.string nm) := by rw [Lib.cell_of_heap hh0]; rfl
  have f0_1 : w1.frozen? ⟨w.heap.size, 1, none⟩ = false := Lib.frozen_of_heap hh0 1
  have c0_2 : w1.cell? ⟨w.heap.size, 2, none⟩ = some (.string tx) := by rw [Lib.cell_of_heap hh0]; rfl
  have f0_2 : w1.frozen? ⟨w.heap.size, 2, none⟩ = false := Lib.frozen_of_heap hh0 2
  have c0_3 : w1.cell? ⟨w.heap.size, 3, none⟩ = some (.int .i64 n) := by rw [Lib.cell_of_heap hh0]; rfl
  have f0_3 : w1.frozen? ⟨w.heap.size, 3, none⟩ = false := Lib.frozen_of_heap hh0 3
  have c0_4 : w1.cell? ⟨w.heap.size, 4, none⟩ = some (.int .i64 m) := by rw [Lib.cell_of_heap hh0]; rfl
  have f0_4 : w1.frozen? ⟨w.heap.size, 4, none⟩ = false := Lib.frozen_of_heap hh0 4
  clear hh0
  have HH1_1 := Lib.hid hh1
  have lt1 := heap_lt hh1
  have c1_0 : w1.cell? ⟨w.heap.size + 1, 0, none⟩ = some (.int .u8 0) := by rw [Lib.cell_of_heap hh1]; rfl
  have f1_0 : w1.frozen? ⟨w.heap.size + 1, 0, none⟩ = false := Lib.frozen_of_heap hh1 0
  have c1_1 : w1.cell? ⟨w.heap.size + 1, 1, none⟩ = some (.string ⟨#[]⟩) := by rw [Lib.cell_of_heap hh1]; rfl
  have f1_1 : w1.frozen? ⟨w.heap.size + 1, 1, none⟩ = false := Lib.frozen_of_heap hh1 1
  have c1_2 : w1.cell? ⟨w.heap.size + 1, 2, none⟩ = some (.string ⟨#[]⟩) := by rw [Lib.cell_of_heap hh1]; rfl
  have f1_2 : w1.frozen? ⟨w.heap.size + 1, 2, none⟩ = false := Lib.frozen_of_heap hh1 2
  have c1_3 : w1.cell? ⟨w.heap.size + 1, 3, none⟩ = some (.int .i64 0) := by rw [Lib.cell_of_heap hh1]; rfl
  have f1_3 : w1.frozen? ⟨w.heap.size + 1, 3, none⟩ = false := Lib.frozen_of_heap hh1 3
  have c1_4 : w1.cell? ⟨w.heap.size + 1, 4, none⟩ = some (.int .i64 0) := by rw [Lib.cell_of_heap hh1]; rfl
  have f1_4 : w1.frozen? ⟨w.heap.size + 1, 4, none⟩ = false := Lib.frozen_of_heap hh1 4
  clear hh1
  have sz1 := hbw1.size
  have HW1 := Lib.hid hbw1
  go_wp2_with fail
  refine bodyPost_ret (v := .tuple #[.agg #[.int .u8 3, .string nm, .string tx, .int .i64 n, .int .i64 m], .bool false]) (by simp [results, Tryz.results52, go_sem, c1_0, f1_0, c1_1, f1_1, c1_2, f1_2, c1_3, f1_3, c1_4, f1_4]; try rfl) rfl ?_
  exact ⟨rfl, by first | exact HW1.out | (go_grown; done)⟩
set_option maxRecDepth 100000 in
set_option maxHeartbeats 4000000 in
theorem told_go (nm tx : ByteArray) (n m : Int) (p g : Nat) (cap : Array Value) (s : ByteArray) (e0 : Int) (t : Bool) (w : World) (HP : Hid (w.cell? ⟨p, 0, none⟩ = some (.func (.func g) #[] cap))) (hp : p < w.heap.size) (eg : ∀ args w, (callFunc g args).run Tryz.prog w = .ok (.enter g args) w) (ht : (e0 == 0) = t)
    (HC : Hid (DoesU w 22 #[.string tx] (.int .i64 0))) (HG : Hid (DoesU w g (#[.string tx] ++ cap) (.tuple #[.string s, .int .i64 e0]))) :
    Calls Tryz.prog 52 #[.agg #[.int .u8 3, .string nm, .string tx, .int .i64 n, .int .i64 m], .pointer (some ⟨p, 0, none⟩)] w fun e w' => e = .returned (.tuple #[.agg #[.int .u8 3, .string ⟨#[]⟩, .string s, .int .i64 0, .int .i64 0], .bool t]) ∧ Below w.heap.size w w' := by
  go_enter Tryz.func52, Tryz.ntmps52
  go_wp2_with fail
  refine (HC.out _ (by first | exact Below.refl _ _ | (go_grown; done))).mono ?_; rintro e w1 ⟨rfl, hb⟩
  have hh0 : w1.heap[w.heap.size]? = some (.cells #[.int .u8 3, .string nm, .string tx, .int .i64 n, .int .i64 m] 26 (0, 0)) := (hb.block _ (by first | omega | (simp; done) | (simp; omega))).trans (heap_old (o' := (.cells #[.int .u8 0, .string ⟨#[]⟩, .string ⟨#[]⟩, .int .i64 0, .int .i64 0] 26 (0, 0))) (heap_new _ _ _ (by first | rfl | simp)))
  have hh1 : w1.heap[w.heap.size + 1]? = some (.cells #[.int .u8 0, .string ⟨#[]⟩, .string ⟨#[]⟩, .int .i64 0, .int .i64 0] 26 (0, 0)) := (hb.block _ (by first | omega | (simp; done) | (simp; omega))).trans (heap_new _ _ _ (by first | rfl | simp))
  have hbw1 : Below w.heap.size w w1 := (show Below w.heap.size w _ by first | exact Below.refl _ _ | (go_grown; done)).trans (hb.mono (by first | omega | (simp; done) | (simp; omega)))
  clear hb
  have HH0_1 := Lib.hid hh0
  have lt0 := heap_lt hh0
  have c0_0 : w1.cell? ⟨w.heap.size, 0, none⟩ = some (.int .u8 3) := by rw [Lib.cell_of_heap hh0]; rfl
  have f0_0 : w1.frozen? ⟨w.heap.size, 0, none⟩ = false := Lib.frozen_of_heap hh0 0
  have c0_1 : w1.cell? ⟨w.heap.size, 1, none⟩ = some (.string nm) := by rw [Lib.cell_of_heap hh0]; rfl
  have f0_1 : w1.frozen? ⟨w.heap.size, 1, none⟩ = false := Lib.frozen_of_heap hh0 1
  have c0_2 : w1.cell? ⟨w.heap.size, 2, none⟩ = some (.string tx) := by rw [Lib.cell_of_heap hh0]; rfl
  have f0_2 : w1.frozen? ⟨w.heap.size, 2, none⟩ = false := Lib.frozen_of_heap hh0 2
  have c0_3 : w1.cell? ⟨w.heap.size, 3, none⟩ = some (.int .i64 n) := by rw [Lib.cell_of_heap hh0]; rfl
  have f0_3 : w1.frozen? ⟨w.heap.size, 3, none⟩ = false := Lib.frozen_of_heap hh0 3
  have c0_4 : w1.cell? ⟨w.heap.size, 4, none⟩ = some (.int .i64 m) := by rw [Lib.cell_of_heap hh0]; rfl
  have f0_4 : w1.frozen? ⟨w.heap.size, 4, none⟩ = false := Lib.frozen_of_heap hh0 4
  clear hh0
  have HH1_1 := Lib.hid hh1
  have lt1 := heap_lt hh1
  have c1_0 : w1.cell? ⟨w.heap.size + 1, 0, none⟩ = some (.int .u8 0) := by rw [Lib.cell_of_heap hh1]; rfl
  have f1_0 : w1.frozen? ⟨w.heap.size + 1, 0, none⟩ = false := Lib.frozen_of_heap hh1 0
  have c1_1 : w1.cell? ⟨w.heap.size + 1, 1, none⟩ = some (.string ⟨#[]⟩) := by rw [Lib.cell_of_heap hh1]; rfl
  have f1_1 : w1.frozen? ⟨w.heap.size + 1, 1, none⟩ = false := Lib.frozen_of_heap hh1 1
  have c1_2 : w1.cell? ⟨w.heap.size + 1, 2, none⟩ = some (.string ⟨#[]⟩) := by rw [Lib.cell_of_heap hh1]; rfl
  have f1_2 : w1.frozen? ⟨w.heap.size + 1, 2, none⟩ = false := Lib.frozen_of_heap hh1 2
  have c1_3 : w1.cell? ⟨w.heap.size + 1, 3, none⟩ = some (.int .i64 0) := by rw [Lib.cell_of_heap hh1]; rfl
  have f1_3 : w1.frozen? ⟨w.heap.size + 1, 3, none⟩ = false := Lib.frozen_of_heap hh1 3
  have c1_4 : w1.cell? ⟨w.heap.size + 1, 4, none⟩ = some (.int .i64 0) := by rw [Lib.cell_of_heap hh1]; rfl
  have f1_4 : w1.frozen? ⟨w.heap.size + 1, 4, none⟩ = false := Lib.frozen_of_heap hh1 4
  clear hh1
  have sz1 := hbw1.size
  have HW1 := Lib.hid hbw1
  have cp1 : w1.cell? ⟨p, 0, none⟩ = some (.func (.func g) #[] cap) := (HW1.out.cell (p := ⟨p, 0, none⟩) hp).trans HP.out
  go_wp2_with fail
  refine (HG.out _ (by first | exact HW1.out | exact HW1.out.trans ⟨rfl, rfl, rfl, Nat.le_refl _, fun _ _ => rfl⟩ | (go_grown; done))).mono ?_; rintro e w2 ⟨rfl, hb⟩
  have hv0 := HH0_1.out
  have hh0 : w2.heap[w.heap.size]? = some (.cells #[.int .u8 3, .string nm, .string tx, .int .i64 n, .int .i64 m] 26 (0, 0)) := (hb.block _ (heap_lt hv0)).trans hv0
  clear hv0
  have hv1 := HH1_1.out
  have hh1 : w2.heap[w.heap.size + 1]? = some (.cells #[.int .u8 0, .string ⟨#[]⟩, .string ⟨#[]⟩, .int .i64 0, .int .i64 0] 26 (0, 0)) := (hb.block _ (heap_lt hv1)).trans hv1
  clear hv1
  have hbw2 : Below w.heap.size w w2 := (show Below w.heap.size w _ by first | exact HW1.out.trans ⟨rfl, rfl, rfl, Nat.le_refl _, fun _ _ => rfl⟩ | exact HW1.out | (go_grown; done)).trans (hb.mono (by first | omega | (simp; done) | (simp; omega)))
  clear hb lt0 c0_0 f0_0 c0_1 f0_1 c0_2 f0_2 c0_3 f0_3 c0_4 f0_4 lt1 c1_0 f1_0 c1_1 f1_1 c1_2 f1_2 c1_3 f1_3 c1_4 f1_4 hbw1
  have HH0_2 := Lib.hid hh0
  have lt0 := heap_lt hh0
  have c0_0 : w2.cell? ⟨w.heap.size, 0, none⟩ = some (.int .u8 3) := by rw [Lib.cell_of_heap hh0]; rfl
  have f0_0 : w2.frozen? ⟨w.heap.size, 0, none⟩ = false := Lib.frozen_of_heap hh0 0
  have c0_1 : w2.cell? ⟨w.heap.size, 1, none⟩ = some (.string nm) := by rw [Lib.cell_of_heap hh0]; rfl
  have f0_1 : w2.frozen? ⟨w.heap.size, 1, none⟩ = false := Lib.frozen_of_heap hh0 1
  have c0_2 : w2.cell? ⟨w.heap.size, 2, none⟩ = some (.string tx) := by rw [Lib.cell_of_heap hh0]; rfl
  have f0_2 : w2.frozen? ⟨w.heap.size, 2, none⟩ = false := Lib.frozen_of_heap hh0 2
  have c0_3 : w2.cell? ⟨w.heap.size, 3, none⟩ = some (.int .i64 n) := by rw [Lib.cell_of_heap hh0]; rfl
  have f0_3 : w2.frozen? ⟨w.heap.size, 3, none⟩ = false := Lib.frozen_of_heap hh0 3
  have c0_4 : w2.cell? ⟨w.heap.size, 4, none⟩ = some (.int .i64 m) := by rw [Lib.cell_of_heap hh0]; rfl
  have f0_4 : w2.frozen? ⟨w.heap.size, 4, none⟩ = false := Lib.frozen_of_heap hh0 4
  clear hh0
  have HH1_2 := Lib.hid hh1
  have lt1 := heap_lt hh1
  have c1_0 : w2.cell? ⟨w.heap.size + 1, 0, none⟩ = some (.int .u8 0) := by rw [Lib.cell_of_heap hh1]; rfl
  have f1_0 : w2.frozen? ⟨w.heap.size + 1, 0, none⟩ = false := Lib.frozen_of_heap hh1 0
  have c1_1 : w2.cell? ⟨w.heap.size + 1, 1, none⟩ = some (.string ⟨#[]⟩) := by rw [Lib.cell_of_heap hh1]; rfl
  have f1_1 : w2.frozen? ⟨w.heap.size + 1, 1, none⟩ = false := Lib.frozen_of_heap hh1 1
  have c1_2 : w2.cell? ⟨w.heap.size + 1, 2, none⟩ = some (.string ⟨#[]⟩) := by rw [Lib.cell_of_heap hh1]; rfl
  have f1_2 : w2.frozen? ⟨w.heap.size + 1, 2, none⟩ = false := Lib.frozen_of_heap hh1 2
  have c1_3 : w2.cell? ⟨w.heap.size + 1, 3, none⟩ = some (.int .i64 0) := by rw [Lib.cell_of_heap hh1]; rfl
  have f1_3 : w2.frozen? ⟨w.heap.size + 1, 3, none⟩ = false := Lib.frozen_of_heap hh1 3
  have c1_4 : w2.cell? ⟨w.heap.size + 1, 4, none⟩ = some (.int .i64 0) := by rw [Lib.cell_of_heap hh1]; rfl
  have f1_4 : w2.frozen? ⟨w.heap.size + 1, 4, none⟩ = false := Lib.frozen_of_heap hh1 4
  clear hh1
  have sz2 := hbw2.size
  have HW2 := Lib.hid hbw2
  clear cp1
  go_wp2_with fail
  refine bodyPost_ret (v := .tuple #[.agg #[.int .u8 3, .string ⟨#[]⟩, .string s, .int .i64 0, .int .i64 0], .bool t]) (by simp [results, Tryz.results52, go_sem, c1_0, f1_0, c1_1, f1_1, c1_2, f1_2, c1_3, f1_3, c1_4, f1_4]; try rfl) rfl ?_
  exact ⟨rfl, by first | exact HW2.out | (go_grown; done)⟩
set_option maxRecDepth 100000 in
set_option maxHeartbeats 4000000 in
theorem digs_int (nm tx : ByteArray) (n m : Int) (p : Nat) (s : ByteArray) (w : World) (HW : Hid (DoesU w 54 #[.int .i64 n] (.string s))) :
    Calls Tryz.prog 53 #[.agg #[.int .u8 2, .string nm, .string tx, .int .i64 n, .int .i64 m], .pointer (some ⟨p, 0, none⟩)] w fun e w' => e = .returned (.tuple #[.agg #[.int .u8 3, .string ⟨#[]⟩, .string s, .int .i64 0, .int .i64 0], .bool true]) ∧ Below w.heap.size w w' := by
  go_enter Tryz.func53, Tryz.ntmps53
  go_wp2_with fail
  refine (HW.out _ (by first | exact Below.refl _ _ | (go_grown; done))).mono ?_; rintro e w1 ⟨rfl, hb⟩
  have hh0 : w1.heap[w.heap.size]? = some (.cells #[.int .u8 2, .string nm, .string tx, .int .i64 n, .int .i64 m] 26 (0, 0)) := (hb.block _ (by first | omega | (simp; done) | (simp; omega))).trans (heap_old (o' := (.cells #[.int .u8 0, .string ⟨#[]⟩, .string ⟨#[]⟩, .int .i64 0, .int .i64 0] 26 (0, 0))) (heap_new _ _ _ (by first | rfl | simp)))
  have hh1 : w1.heap[w.heap.size + 1]? = some (.cells #[.int .u8 0, .string ⟨#[]⟩, .string ⟨#[]⟩, .int .i64 0, .int .i64 0] 26 (0, 0)) := (hb.block _ (by first | omega | (simp; done) | (simp; omega))).trans (heap_new _ _ _ (by first | rfl | simp))
  have hbw1 : Below w.heap.size w w1 := (show Below w.heap.size w _ by first | exact Below.refl _ _ | (go_grown; done)).trans (hb.mono (by first | omega | (simp; done) | (simp; omega)))
  clear hb
  have HH0_1 := Lib.hid hh0
  have lt0 := heap_lt hh0
  have c0_0 : w1.cell? ⟨w.heap.size, 0, none⟩ = some (.int .u8 2) := by rw [Lib.cell_of_heap hh0]; rfl
  have f0_0 : w1.frozen? ⟨w.heap.size, 0, none⟩ = false := Lib.frozen_of_heap hh0 0
  have c0_1 : w1.cell? ⟨w.heap.size, 1, none⟩ = some (.string nm) := by rw [Lib.cell_of_heap hh0]; rfl
  have f0_1 : w1.frozen? ⟨w.heap.size, 1, none⟩ = false := Lib.frozen_of_heap hh0 1
  have c0_2 : w1.cell? ⟨w.heap.size, 2, none⟩ = some (.string tx) := by rw [Lib.cell_of_heap hh0]; rfl
  have f0_2 : w1.frozen? ⟨w.heap.size, 2, none⟩ = false := Lib.frozen_of_heap hh0 2
  have c0_3 : w1.cell? ⟨w.heap.size, 3, none⟩ = some (.int .i64 n) := by rw [Lib.cell_of_heap hh0]; rfl
  have f0_3 : w1.frozen? ⟨w.heap.size, 3, none⟩ = false := Lib.frozen_of_heap hh0 3
  have c0_4 : w1.cell? ⟨w.heap.size, 4, none⟩ = some (.int .i64 m) := by rw [Lib.cell_of_heap hh0]; rfl
  have f0_4 : w1.frozen? ⟨w.heap.size, 4, none⟩ = false := Lib.frozen_of_heap hh0 4
  clear hh0
  have HH1_1 := Lib.hid hh1
  have lt1 := heap_lt hh1
  have c1_0 : w1.cell? ⟨w.heap.size + 1, 0, none⟩ = some (.int .u8 0) := by rw [Lib.cell_of_heap hh1]; rfl
  have f1_0 : w1.frozen? ⟨w.heap.size + 1, 0, none⟩ = false := Lib.frozen_of_heap hh1 0
  have c1_1 : w1.cell? ⟨w.heap.size + 1, 1, none⟩ = some (.string ⟨#[]⟩) := by rw [Lib.cell_of_heap hh1]; rfl
  have f1_1 : w1.frozen? ⟨w.heap.size + 1, 1, none⟩ = false := Lib.frozen_of_heap hh1 1
  have c1_2 : w1.cell? ⟨w.heap.size + 1, 2, none⟩ = some (.string ⟨#[]⟩) := by rw [Lib.cell_of_heap hh1]; rfl
  have f1_2 : w1.frozen? ⟨w.heap.size + 1, 2, none⟩ = false := Lib.frozen_of_heap hh1 2
  have c1_3 : w1.cell? ⟨w.heap.size + 1, 3, none⟩ = some (.int .i64 0) := by rw [Lib.cell_of_heap hh1]; rfl
  have f1_3 : w1.frozen? ⟨w.heap.size + 1, 3, none⟩ = false := Lib.frozen_of_heap hh1 3
  have c1_4 : w1.cell? ⟨w.heap.size + 1, 4, none⟩ = some (.int .i64 0) := by rw [Lib.cell_of_heap hh1]; rfl
  have f1_4 : w1.frozen? ⟨w.heap.size + 1, 4, none⟩ = false := Lib.frozen_of_heap hh1 4
  clear hh1
  have sz1 := hbw1.size
  have HW1 := Lib.hid hbw1
  go_wp2_with fail
  refine bodyPost_ret (v := .tuple #[.agg #[.int .u8 3, .string ⟨#[]⟩, .string s, .int .i64 0, .int .i64 0], .bool true]) (by simp [results, Tryz.results53, go_sem, c1_0, f1_0, c1_1, f1_1, c1_2, f1_2, c1_3, f1_3, c1_4, f1_4]; try rfl) rfl ?_
  exact ⟨rfl, by first | exact HW1.out | (go_grown; done)⟩
set_option maxRecDepth 100000 in
set_option maxHeartbeats 4000000 in
theorem digs_go (k : Int) (nm tx : ByteArray) (n m : Int) (p g : Nat) (cap : Array Value) (k1 : Int) (nm1 tx1 : ByteArray) (n1 m1 : Int) (t : Bool) (w : World) (HP : Hid (w.cell? ⟨p, 0, none⟩ = some (.func (.func g) #[] cap))) (hp : p < w.heap.size) (eg : ∀ args w, (callFunc g args).run Tryz.prog w = .ok (.enter g args) w) (hk : (k == 2) = false)
    (HG : Hid (DoesU w g (#[.agg #[.int .u8 k, .string nm, .string tx, .int .i64 n, .int .i64 m]] ++ cap) (.tuple #[.agg #[.int .u8 k1, .string nm1, .string tx1, .int .i64 n1, .int .i64 m1], .bool t]))) :
    Calls Tryz.prog 53 #[.agg #[.int .u8 k, .string nm, .string tx, .int .i64 n, .int .i64 m], .pointer (some ⟨p, 0, none⟩)] w fun e w' => e = .returned (.tuple #[.agg #[.int .u8 k1, .string nm1, .string tx1, .int .i64 n1, .int .i64 m1], .bool t]) ∧ Below w.heap.size w w' := by
  have cp0 := HP.out
  go_enter Tryz.func53, Tryz.ntmps53
  go_wp2_with fail
  refine (HG.out _ (by first | exact Below.refl _ _ | (go_grown; done))).mono ?_; rintro e w1 ⟨rfl, hb⟩
  have hh0 : w1.heap[w.heap.size]? = some (.cells #[.int .u8 k, .string nm, .string tx, .int .i64 n, .int .i64 m] 26 (0, 0)) := (hb.block _ (by first | omega | (simp; done) | (simp; omega))).trans (heap_old (o' := (.cells #[.int .u8 0, .string ⟨#[]⟩, .string ⟨#[]⟩, .int .i64 0, .int .i64 0] 26 (0, 0))) (heap_new _ _ _ (by first | rfl | simp)))
  have hh1 : w1.heap[w.heap.size + 1]? = some (.cells #[.int .u8 0, .string ⟨#[]⟩, .string ⟨#[]⟩, .int .i64 0, .int .i64 0] 26 (0, 0)) := (hb.block _ (by first | omega | (simp; done) | (simp; omega))).trans (heap_new _ _ _ (by first | rfl | simp))
  have hbw1 : Below w.heap.size w w1 := (show Below w.heap.size w _ by first | exact Below.refl _ _ | (go_grown; done)).trans (hb.mono (by first | omega | (simp; done) | (simp; omega)))
  clear hb
  have HH0_1 := Lib.hid hh0
  have lt0 := heap_lt hh0
  have c0_0 : w1.cell? ⟨w.heap.size, 0, none⟩ = some (.int .u8 k) := by rw [Lib.cell_of_heap hh0]; rfl
  have f0_0 : w1.frozen? ⟨w.heap.size, 0, none⟩ = false := Lib.frozen_of_heap hh0 0
  have c0_1 : w1.cell? ⟨w.heap.size, 1, none⟩ = some (.string nm) := by rw [Lib.cell_of_heap hh0]; rfl
  have f0_1 : w1.frozen? ⟨w.heap.size, 1, none⟩ = false := Lib.frozen_of_heap hh0 1
  have c0_2 : w1.cell? ⟨w.heap.size, 2, none⟩ = some (.string tx) := by rw [Lib.cell_of_heap hh0]; rfl
  have f0_2 : w1.frozen? ⟨w.heap.size, 2, none⟩ = false := Lib.frozen_of_heap hh0 2
  have c0_3 : w1.cell? ⟨w.heap.size, 3, none⟩ = some (.int .i64 n) := by rw [Lib.cell_of_heap hh0]; rfl
  have f0_3 : w1.frozen? ⟨w.heap.size, 3, none⟩ = false := Lib.frozen_of_heap hh0 3
  have c0_4 : w1.cell? ⟨w.heap.size, 4, none⟩ = some (.int .i64 m) := by rw [Lib.cell_of_heap hh0]; rfl
  have f0_4 : w1.frozen? ⟨w.heap.size, 4, none⟩ = false := Lib.frozen_of_heap hh0 4
  clear hh0
  have HH1_1 := Lib.hid hh1
  have lt1 := heap_lt hh1
  have c1_0 : w1.cell? ⟨w.heap.size + 1, 0, none⟩ = some (.int .u8 0) := by rw [Lib.cell_of_heap hh1]; rfl
  have f1_0 : w1.frozen? ⟨w.heap.size + 1, 0, none⟩ = false := Lib.frozen_of_heap hh1 0
  have c1_1 : w1.cell? ⟨w.heap.size + 1, 1, none⟩ = some (.string ⟨#[]⟩) := by rw [Lib.cell_of_heap hh1]; rfl
  have f1_1 : w1.frozen? ⟨w.heap.size + 1, 1, none⟩ = false := Lib.frozen_of_heap hh1 1
  have c1_2 : w1.cell? ⟨w.heap.size + 1, 2, none⟩ = some (.string ⟨#[]⟩) := by rw [Lib.cell_of_heap hh1]; rfl
  have f1_2 : w1.frozen? ⟨w.heap.size + 1, 2, none⟩ = false := Lib.frozen_of_heap hh1 2
  have c1_3 : w1.cell? ⟨w.heap.size + 1, 3, none⟩ = some (.int .i64 0) := by rw [Lib.cell_of_heap hh1]; rfl
  have f1_3 : w1.frozen? ⟨w.heap.size + 1, 3, none⟩ = false := Lib.frozen_of_heap hh1 3
  have c1_4 : w1.cell? ⟨w.heap.size + 1, 4, none⟩ = some (.int .i64 0) := by rw [Lib.cell_of_heap hh1]; rfl
  have f1_4 : w1.frozen? ⟨w.heap.size + 1, 4, none⟩ = false := Lib.frozen_of_heap hh1 4
  clear hh1
  have sz1 := hbw1.size
  have HW1 := Lib.hid hbw1
  clear cp0
  go_wp2_with fail
  refine bodyPost_ret (v := .tuple #[.agg #[.int .u8 k1, .string nm1, .string tx1, .int .i64 n1, .int .i64 m1], .bool t]) (by simp [results, Tryz.results53, go_sem, c1_0, f1_0, c1_1, f1_1, c1_2, f1_2, c1_3, f1_3, c1_4, f1_4]; try rfl) rfl ?_
  exact ⟨rfl, by first | exact HW1.out | (go_grown; done)⟩
end Go.Proofs.YtpkkejcndmcbiaaGreatDoor
