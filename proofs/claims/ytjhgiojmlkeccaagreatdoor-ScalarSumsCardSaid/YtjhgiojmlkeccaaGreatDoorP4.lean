/- Walks and plain laws of this proof, joined from smaller texts (4). -/
import Derived.IntWalk
import Derived.LoopTactic
import Derived.Deep.LoopGhost
import Derived.Laws.IdiomStrings
import Derived.Test.YtjhgiojmlkeccaaGreatDoorShelf
import Derived.ScopeJumps
import Derived.Test.YtjhgiojmlkeccaaGreatDoorP3
set_option linter.unusedSimpArgs false
set_option linter.unusedVariables false
namespace Go.Proofs.YtjhgiojmlkeccaaGreatDoor
open Go.RowKit Go.Shelf
set_option maxRecDepth 100000 in
set_option maxHeartbeats 4000000 in
theorem asked_2_bad1_x (g : Nat) (cap : Array Value) (c a : Value) (l : Bool) (k1 : Int) (nm1 tx1 : ByteArray) (n1 m1 : Int) (k2 : Int) (nm2 tx2 : ByteArray) (n2 m2 : Int) (yk : Int) (yt : ByteArray) (yn : Int) (rb : Nat) (w : World)  (HROW : Hid (w.heap[rb]? = some (.cells #[.int .u8 k1, .string nm1, .string tx1, .int .i64 n1, .int .i64 m1, .int .u8 k2, .string nm2, .string tx2, .int .i64 n2, .int .i64 m2] 23 (0, 0))))  (H1 : Hid (DoesU w 16 #[.agg #[.func (.func g) #[] cap, c, a, .bool l], .agg #[.int .u8 k1, .string nm1, .string tx1, .int .i64 n1, .int .i64 m1]] (.tuple #[.agg #[.int .u8 yk, .string ⟨#[]⟩, .string yt, .int .i64 yn, .int .i64 0], .bool false]))) :
    Calls Tryz.prog 17 #[.agg #[.func (.func g) #[] cap, c, a, .bool l], .bool true, .slice (some ⟨rb, 0, none⟩) 2 2] w fun e w' => e = .returned (.int .i64 160) ∧ Below w.heap.size w w' := by
  have hlt : rb < w.heap.size := heap_lt HROW.out
  have q0 : w.cell? ⟨rb, 0, none⟩ = some (.int .u8 k1) := (Lib.cell_of_heap HROW.out 0).trans rfl
  have q1 : w.cell? ⟨rb, 1, none⟩ = some (.string nm1) := (Lib.cell_of_heap HROW.out 1).trans rfl
  have q2 : w.cell? ⟨rb, 2, none⟩ = some (.string tx1) := (Lib.cell_of_heap HROW.out 2).trans rfl
  have q3 : w.cell? ⟨rb, 3, none⟩ = some (.int .i64 n1) := (Lib.cell_of_heap HROW.out 3).trans rfl
  have q4 : w.cell? ⟨rb, 4, none⟩ = some (.int .i64 m1) := (Lib.cell_of_heap HROW.out 4).trans rfl
  have q5 : w.cell? ⟨rb, 5, none⟩ = some (.int .u8 k2) := (Lib.cell_of_heap HROW.out 5).trans rfl
  have q6 : w.cell? ⟨rb, 6, none⟩ = some (.string nm2) := (Lib.cell_of_heap HROW.out 6).trans rfl
  have q7 : w.cell? ⟨rb, 7, none⟩ = some (.string tx2) := (Lib.cell_of_heap HROW.out 7).trans rfl
  have q8 : w.cell? ⟨rb, 8, none⟩ = some (.int .i64 n2) := (Lib.cell_of_heap HROW.out 8).trans rfl
  have q9 : w.cell? ⟨rb, 9, none⟩ = some (.int .i64 m2) := (Lib.cell_of_heap HROW.out 9).trans rfl
  go_enter Tryz.func17, Tryz.ntmps17
  go_wp2_with fail
  refine wp_loop_rounds 3 ?_
  rw [rounds_succ]
  go_wp2_with fail
  refine (H1.out _ (by first | exact Below.refl _ _ | (go_grown; done))).mono ?_; rintro e w1 ⟨rfl, hb⟩
  have hh0 : w1.heap[w.heap.size]? = some (.cells #[.func (.func g) #[] cap, c, a, .bool l] 41 (0, 0)) := (hb.block _ (by first | omega | (simp; done) | (simp; omega))).trans (heap_old (o' := (.cells #[.int .u8 k1, .string nm1, .string tx1, .int .i64 n1, .int .i64 m1] 23 (0, 0))) (heap_new _ _ _ (by first | rfl | simp)))
  have hh1 : w1.heap[w.heap.size + 1]? = some (.cells #[.int .u8 k1, .string nm1, .string tx1, .int .i64 n1, .int .i64 m1] 23 (0, 0)) := (hb.block _ (by first | omega | (simp; done) | (simp; omega))).trans (heap_new _ _ _ (by first | rfl | simp))
  have hbw1 : Below w.heap.size w w1 := (show Below w.heap.size w _ by first | exact Below.refl _ _ | (go_grown; done)).trans (hb.mono (by first | omega | (simp; done) | (simp; omega)))
  clear hb
  have HH0_1 := Lib.hid hh0
  have lt0 := heap_lt hh0
  have c0_0 : w1.cell? ⟨w.heap.size, 0, none⟩ = some (.func (.func g) #[] cap) := by rw [Lib.cell_of_heap hh0]; rfl
  have c0_1 : w1.cell? ⟨w.heap.size, 1, none⟩ = some (c) := by rw [Lib.cell_of_heap hh0]; rfl
  have c0_2 : w1.cell? ⟨w.heap.size, 2, none⟩ = some (a) := by rw [Lib.cell_of_heap hh0]; rfl
  have c0_3 : w1.cell? ⟨w.heap.size, 3, none⟩ = some (.bool l) := by rw [Lib.cell_of_heap hh0]; rfl
  clear hh0
  have HH1_1 := Lib.hid hh1
  have lt1 := heap_lt hh1
  have c1_0 : w1.cell? ⟨w.heap.size + 1, 0, none⟩ = some (.int .u8 k1) := by rw [Lib.cell_of_heap hh1]; rfl
  have c1_1 : w1.cell? ⟨w.heap.size + 1, 1, none⟩ = some (.string nm1) := by rw [Lib.cell_of_heap hh1]; rfl
  have c1_2 : w1.cell? ⟨w.heap.size + 1, 2, none⟩ = some (.string tx1) := by rw [Lib.cell_of_heap hh1]; rfl
  have c1_3 : w1.cell? ⟨w.heap.size + 1, 3, none⟩ = some (.int .i64 n1) := by rw [Lib.cell_of_heap hh1]; rfl
  have c1_4 : w1.cell? ⟨w.heap.size + 1, 4, none⟩ = some (.int .i64 m1) := by rw [Lib.cell_of_heap hh1]; rfl
  clear hh1
  have sz1 := hbw1.size
  have HW1 := Lib.hid hbw1
  clear q0 q1 q2 q3 q4 q5 q6 q7 q8 q9
  have hl1 : rb < w1.heap.size := Nat.lt_of_lt_of_le hlt HW1.out.size
  have q0 : w1.cell? ⟨rb, 0, none⟩ = some (.int .u8 k1) := (HW1.out.cell (p := ⟨rb, 0, none⟩) hlt).trans ((Lib.cell_of_heap HROW.out 0).trans rfl)
  have q1 : w1.cell? ⟨rb, 1, none⟩ = some (.string nm1) := (HW1.out.cell (p := ⟨rb, 1, none⟩) hlt).trans ((Lib.cell_of_heap HROW.out 1).trans rfl)
  have q2 : w1.cell? ⟨rb, 2, none⟩ = some (.string tx1) := (HW1.out.cell (p := ⟨rb, 2, none⟩) hlt).trans ((Lib.cell_of_heap HROW.out 2).trans rfl)
  have q3 : w1.cell? ⟨rb, 3, none⟩ = some (.int .i64 n1) := (HW1.out.cell (p := ⟨rb, 3, none⟩) hlt).trans ((Lib.cell_of_heap HROW.out 3).trans rfl)
  have q4 : w1.cell? ⟨rb, 4, none⟩ = some (.int .i64 m1) := (HW1.out.cell (p := ⟨rb, 4, none⟩) hlt).trans ((Lib.cell_of_heap HROW.out 4).trans rfl)
  have q5 : w1.cell? ⟨rb, 5, none⟩ = some (.int .u8 k2) := (HW1.out.cell (p := ⟨rb, 5, none⟩) hlt).trans ((Lib.cell_of_heap HROW.out 5).trans rfl)
  have q6 : w1.cell? ⟨rb, 6, none⟩ = some (.string nm2) := (HW1.out.cell (p := ⟨rb, 6, none⟩) hlt).trans ((Lib.cell_of_heap HROW.out 6).trans rfl)
  have q7 : w1.cell? ⟨rb, 7, none⟩ = some (.string tx2) := (HW1.out.cell (p := ⟨rb, 7, none⟩) hlt).trans ((Lib.cell_of_heap HROW.out 7).trans rfl)
  have q8 : w1.cell? ⟨rb, 8, none⟩ = some (.int .i64 n2) := (HW1.out.cell (p := ⟨rb, 8, none⟩) hlt).trans ((Lib.cell_of_heap HROW.out 8).trans rfl)
  have q9 : w1.cell? ⟨rb, 9, none⟩ = some (.int .i64 m2) := (HW1.out.cell (p := ⟨rb, 9, none⟩) hlt).trans ((Lib.cell_of_heap HROW.out 9).trans rfl)
  go_wp2_with fail
  go_ret
  exact ⟨rfl, by first | exact HW1.out | (go_grown; done)⟩
set_option maxRecDepth 100000 in
set_option maxHeartbeats 4000000 in
theorem asked_2_bad1_0 (g : Nat) (cap : Array Value) (c a : Value) (l : Bool) (k1 : Int) (nm1 tx1 : ByteArray) (n1 m1 : Int) (k2 : Int) (nm2 tx2 : ByteArray) (n2 m2 : Int) (yk : Int) (yt : ByteArray) (yn : Int) (rb : Nat) (w : World) (hne : (yk == k1) = false) (HROW : Hid (w.heap[rb]? = some (.cells #[.int .u8 k1, .string nm1, .string tx1, .int .i64 n1, .int .i64 m1, .int .u8 k2, .string nm2, .string tx2, .int .i64 n2, .int .i64 m2] 23 (0, 0))))  (H1 : Hid (DoesU w 16 #[.agg #[.func (.func g) #[] cap, c, a, .bool l], .agg #[.int .u8 k1, .string nm1, .string tx1, .int .i64 n1, .int .i64 m1]] (.tuple #[.agg #[.int .u8 yk, .string ⟨#[]⟩, .string yt, .int .i64 yn, .int .i64 0], .bool true]))) :
    Calls Tryz.prog 17 #[.agg #[.func (.func g) #[] cap, c, a, .bool l], .bool true, .slice (some ⟨rb, 0, none⟩) 2 2] w fun e w' => e = .returned (.int .i64 160) ∧ Below w.heap.size w w' := by
  have hlt : rb < w.heap.size := heap_lt HROW.out
  have q0 : w.cell? ⟨rb, 0, none⟩ = some (.int .u8 k1) := (Lib.cell_of_heap HROW.out 0).trans rfl
  have q1 : w.cell? ⟨rb, 1, none⟩ = some (.string nm1) := (Lib.cell_of_heap HROW.out 1).trans rfl
  have q2 : w.cell? ⟨rb, 2, none⟩ = some (.string tx1) := (Lib.cell_of_heap HROW.out 2).trans rfl
  have q3 : w.cell? ⟨rb, 3, none⟩ = some (.int .i64 n1) := (Lib.cell_of_heap HROW.out 3).trans rfl
  have q4 : w.cell? ⟨rb, 4, none⟩ = some (.int .i64 m1) := (Lib.cell_of_heap HROW.out 4).trans rfl
  have q5 : w.cell? ⟨rb, 5, none⟩ = some (.int .u8 k2) := (Lib.cell_of_heap HROW.out 5).trans rfl
  have q6 : w.cell? ⟨rb, 6, none⟩ = some (.string nm2) := (Lib.cell_of_heap HROW.out 6).trans rfl
  have q7 : w.cell? ⟨rb, 7, none⟩ = some (.string tx2) := (Lib.cell_of_heap HROW.out 7).trans rfl
  have q8 : w.cell? ⟨rb, 8, none⟩ = some (.int .i64 n2) := (Lib.cell_of_heap HROW.out 8).trans rfl
  have q9 : w.cell? ⟨rb, 9, none⟩ = some (.int .i64 m2) := (Lib.cell_of_heap HROW.out 9).trans rfl
  go_enter Tryz.func17, Tryz.ntmps17
  go_wp2_with fail
  refine wp_loop_rounds 3 ?_
  rw [rounds_succ]
  go_wp2_with fail
  refine (H1.out _ (by first | exact Below.refl _ _ | (go_grown; done))).mono ?_; rintro e w1 ⟨rfl, hb⟩
  have hh0 : w1.heap[w.heap.size]? = some (.cells #[.func (.func g) #[] cap, c, a, .bool l] 41 (0, 0)) := (hb.block _ (by first | omega | (simp; done) | (simp; omega))).trans (heap_old (o' := (.cells #[.int .u8 k1, .string nm1, .string tx1, .int .i64 n1, .int .i64 m1] 23 (0, 0))) (heap_new _ _ _ (by first | rfl | simp)))
  have hh1 : w1.heap[w.heap.size + 1]? = some (.cells #[.int .u8 k1, .string nm1, .string tx1, .int .i64 n1, .int .i64 m1] 23 (0, 0)) := (hb.block _ (by first | omega | (simp; done) | (simp; omega))).trans (heap_new _ _ _ (by first | rfl | simp))
  have hbw1 : Below w.heap.size w w1 := (show Below w.heap.size w _ by first | exact Below.refl _ _ | (go_grown; done)).trans (hb.mono (by first | omega | (simp; done) | (simp; omega)))
  clear hb
  have HH0_1 := Lib.hid hh0
  have lt0 := heap_lt hh0
  have c0_0 : w1.cell? ⟨w.heap.size, 0, none⟩ = some (.func (.func g) #[] cap) := by rw [Lib.cell_of_heap hh0]; rfl
  have c0_1 : w1.cell? ⟨w.heap.size, 1, none⟩ = some (c) := by rw [Lib.cell_of_heap hh0]; rfl
  have c0_2 : w1.cell? ⟨w.heap.size, 2, none⟩ = some (a) := by rw [Lib.cell_of_heap hh0]; rfl
  have c0_3 : w1.cell? ⟨w.heap.size, 3, none⟩ = some (.bool l) := by rw [Lib.cell_of_heap hh0]; rfl
  clear hh0
  have HH1_1 := Lib.hid hh1
  have lt1 := heap_lt hh1
  have c1_0 : w1.cell? ⟨w.heap.size + 1, 0, none⟩ = some (.int .u8 k1) := by rw [Lib.cell_of_heap hh1]; rfl
  have c1_1 : w1.cell? ⟨w.heap.size + 1, 1, none⟩ = some (.string nm1) := by rw [Lib.cell_of_heap hh1]; rfl
  have c1_2 : w1.cell? ⟨w.heap.size + 1, 2, none⟩ = some (.string tx1) := by rw [Lib.cell_of_heap hh1]; rfl
  have c1_3 : w1.cell? ⟨w.heap.size + 1, 3, none⟩ = some (.int .i64 n1) := by rw [Lib.cell_of_heap hh1]; rfl
  have c1_4 : w1.cell? ⟨w.heap.size + 1, 4, none⟩ = some (.int .i64 m1) := by rw [Lib.cell_of_heap hh1]; rfl
  clear hh1
  have sz1 := hbw1.size
  have HW1 := Lib.hid hbw1
  clear q0 q1 q2 q3 q4 q5 q6 q7 q8 q9
  have hl1 : rb < w1.heap.size := Nat.lt_of_lt_of_le hlt HW1.out.size
  have q0 : w1.cell? ⟨rb, 0, none⟩ = some (.int .u8 k1) := (HW1.out.cell (p := ⟨rb, 0, none⟩) hlt).trans ((Lib.cell_of_heap HROW.out 0).trans rfl)
  have q1 : w1.cell? ⟨rb, 1, none⟩ = some (.string nm1) := (HW1.out.cell (p := ⟨rb, 1, none⟩) hlt).trans ((Lib.cell_of_heap HROW.out 1).trans rfl)
  have q2 : w1.cell? ⟨rb, 2, none⟩ = some (.string tx1) := (HW1.out.cell (p := ⟨rb, 2, none⟩) hlt).trans ((Lib.cell_of_heap HROW.out 2).trans rfl)
  have q3 : w1.cell? ⟨rb, 3, none⟩ = some (.int .i64 n1) := (HW1.out.cell (p := ⟨rb, 3, none⟩) hlt).trans ((Lib.cell_of_heap HROW.out 3).trans rfl)
  have q4 : w1.cell? ⟨rb, 4, none⟩ = some (.int .i64 m1) := (HW1.out.cell (p := ⟨rb, 4, none⟩) hlt).trans ((Lib.cell_of_heap HROW.out 4).trans rfl)
  have q5 : w1.cell? ⟨rb, 5, none⟩ = some (.int .u8 k2) := (HW1.out.cell (p := ⟨rb, 5, none⟩) hlt).trans ((Lib.cell_of_heap HROW.out 5).trans rfl)
  have q6 : w1.cell? ⟨rb, 6, none⟩ = some (.string nm2) := (HW1.out.cell (p := ⟨rb, 6, none⟩) hlt).trans ((Lib.cell_of_heap HROW.out 6).trans rfl)
  have q7 : w1.cell? ⟨rb, 7, none⟩ = some (.string tx2) := (HW1.out.cell (p := ⟨rb, 7, none⟩) hlt).trans ((Lib.cell_of_heap HROW.out 7).trans rfl)
  have q8 : w1.cell? ⟨rb, 8, none⟩ = some (.int .i64 n2) := (HW1.out.cell (p := ⟨rb, 8, none⟩) hlt).trans ((Lib.cell_of_heap HROW.out 8).trans rfl)
  have q9 : w1.cell? ⟨rb, 9, none⟩ = some (.int .i64 m2) := (HW1.out.cell (p := ⟨rb, 9, none⟩) hlt).trans ((Lib.cell_of_heap HROW.out 9).trans rfl)
  go_wp2_with fail
  go_ret
  exact ⟨rfl, by first | exact HW1.out | (go_grown; done)⟩
set_option maxRecDepth 100000 in
set_option maxHeartbeats 4000000 in
theorem asked_2_bad1_1 (g : Nat) (cap : Array Value) (c a : Value) (l : Bool) (k1 : Int) (nm1 tx1 : ByteArray) (n1 m1 : Int) (k2 : Int) (nm2 tx2 : ByteArray) (n2 m2 : Int) (yt : ByteArray) (yn : Int) (rb : Nat) (w : World) (hne : ([] == nm1.toList) = false) (hne2 : ¬ nm1.toList = []) (hne3 : ¬ [] = nm1.toList) (HROW : Hid (w.heap[rb]? = some (.cells #[.int .u8 k1, .string nm1, .string tx1, .int .i64 n1, .int .i64 m1, .int .u8 k2, .string nm2, .string tx2, .int .i64 n2, .int .i64 m2] 23 (0, 0))))  (H1 : Hid (DoesU w 16 #[.agg #[.func (.func g) #[] cap, c, a, .bool l], .agg #[.int .u8 k1, .string nm1, .string tx1, .int .i64 n1, .int .i64 m1]] (.tuple #[.agg #[.int .u8 k1, .string ⟨#[]⟩, .string yt, .int .i64 yn, .int .i64 0], .bool true]))) :
    Calls Tryz.prog 17 #[.agg #[.func (.func g) #[] cap, c, a, .bool l], .bool true, .slice (some ⟨rb, 0, none⟩) 2 2] w fun e w' => e = .returned (.int .i64 160) ∧ Below w.heap.size w w' := by
  have hlt : rb < w.heap.size := heap_lt HROW.out
  have q0 : w.cell? ⟨rb, 0, none⟩ = some (.int .u8 k1) := (Lib.cell_of_heap HROW.out 0).trans rfl
  have q1 : w.cell? ⟨rb, 1, none⟩ = some (.string nm1) := (Lib.cell_of_heap HROW.out 1).trans rfl
  have q2 : w.cell? ⟨rb, 2, none⟩ = some (.string tx1) := (Lib.cell_of_heap HROW.out 2).trans rfl
  have q3 : w.cell? ⟨rb, 3, none⟩ = some (.int .i64 n1) := (Lib.cell_of_heap HROW.out 3).trans rfl
  have q4 : w.cell? ⟨rb, 4, none⟩ = some (.int .i64 m1) := (Lib.cell_of_heap HROW.out 4).trans rfl
  have q5 : w.cell? ⟨rb, 5, none⟩ = some (.int .u8 k2) := (Lib.cell_of_heap HROW.out 5).trans rfl
  have q6 : w.cell? ⟨rb, 6, none⟩ = some (.string nm2) := (Lib.cell_of_heap HROW.out 6).trans rfl
  have q7 : w.cell? ⟨rb, 7, none⟩ = some (.string tx2) := (Lib.cell_of_heap HROW.out 7).trans rfl
  have q8 : w.cell? ⟨rb, 8, none⟩ = some (.int .i64 n2) := (Lib.cell_of_heap HROW.out 8).trans rfl
  have q9 : w.cell? ⟨rb, 9, none⟩ = some (.int .i64 m2) := (Lib.cell_of_heap HROW.out 9).trans rfl
  go_enter Tryz.func17, Tryz.ntmps17
  go_wp2_with fail
  refine wp_loop_rounds 3 ?_
  rw [rounds_succ]
  go_wp2_with fail
  refine (H1.out _ (by first | exact Below.refl _ _ | (go_grown; done))).mono ?_; rintro e w1 ⟨rfl, hb⟩
  have hh0 : w1.heap[w.heap.size]? = some (.cells #[.func (.func g) #[] cap, c, a, .bool l] 41 (0, 0)) := (hb.block _ (by first | omega | (simp; done) | (simp; omega))).trans (heap_old (o' := (.cells #[.int .u8 k1, .string nm1, .string tx1, .int .i64 n1, .int .i64 m1] 23 (0, 0))) (heap_new _ _ _ (by first | rfl | simp)))
  have hh1 : w1.heap[w.heap.size + 1]? = some (.cells #[.int .u8 k1, .string nm1, .string tx1, .int .i64 n1, .int .i64 m1] 23 (0, 0)) := (hb.block _ (by first | omega | (simp; done) | (simp; omega))).trans (heap_new _ _ _ (by first | rfl | simp))
  have hbw1 : Below w.heap.size w w1 := (show Below w.heap.size w _ by first | exact Below.refl _ _ | (go_grown; done)).trans (hb.mono (by first | omega | (simp; done) | (simp; omega)))
  clear hb
  have HH0_1 := Lib.hid hh0
  have lt0 := heap_lt hh0
  have c0_0 : w1.cell? ⟨w.heap.size, 0, none⟩ = some (.func (.func g) #[] cap) := by rw [Lib.cell_of_heap hh0]; rfl
  have c0_1 : w1.cell? ⟨w.heap.size, 1, none⟩ = some (c) := by rw [Lib.cell_of_heap hh0]; rfl
  have c0_2 : w1.cell? ⟨w.heap.size, 2, none⟩ = some (a) := by rw [Lib.cell_of_heap hh0]; rfl
  have c0_3 : w1.cell? ⟨w.heap.size, 3, none⟩ = some (.bool l) := by rw [Lib.cell_of_heap hh0]; rfl
  clear hh0
  have HH1_1 := Lib.hid hh1
  have lt1 := heap_lt hh1
  have c1_0 : w1.cell? ⟨w.heap.size + 1, 0, none⟩ = some (.int .u8 k1) := by rw [Lib.cell_of_heap hh1]; rfl
  have c1_1 : w1.cell? ⟨w.heap.size + 1, 1, none⟩ = some (.string nm1) := by rw [Lib.cell_of_heap hh1]; rfl
  have c1_2 : w1.cell? ⟨w.heap.size + 1, 2, none⟩ = some (.string tx1) := by rw [Lib.cell_of_heap hh1]; rfl
  have c1_3 : w1.cell? ⟨w.heap.size + 1, 3, none⟩ = some (.int .i64 n1) := by rw [Lib.cell_of_heap hh1]; rfl
  have c1_4 : w1.cell? ⟨w.heap.size + 1, 4, none⟩ = some (.int .i64 m1) := by rw [Lib.cell_of_heap hh1]; rfl
  clear hh1
  have sz1 := hbw1.size
  have HW1 := Lib.hid hbw1
  clear q0 q1 q2 q3 q4 q5 q6 q7 q8 q9
  have hl1 : rb < w1.heap.size := Nat.lt_of_lt_of_le hlt HW1.out.size
  have q0 : w1.cell? ⟨rb, 0, none⟩ = some (.int .u8 k1) := (HW1.out.cell (p := ⟨rb, 0, none⟩) hlt).trans ((Lib.cell_of_heap HROW.out 0).trans rfl)
  have q1 : w1.cell? ⟨rb, 1, none⟩ = some (.string nm1) := (HW1.out.cell (p := ⟨rb, 1, none⟩) hlt).trans ((Lib.cell_of_heap HROW.out 1).trans rfl)
  have q2 : w1.cell? ⟨rb, 2, none⟩ = some (.string tx1) := (HW1.out.cell (p := ⟨rb, 2, none⟩) hlt).trans ((Lib.cell_of_heap HROW.out 2).trans rfl)
  have q3 : w1.cell? ⟨rb, 3, none⟩ = some (.int .i64 n1) := (HW1.out.cell (p := ⟨rb, 3, none⟩) hlt).trans ((Lib.cell_of_heap HROW.out 3).trans rfl)
  have q4 : w1.cell? ⟨rb, 4, none⟩ = some (.int .i64 m1) := (HW1.out.cell (p := ⟨rb, 4, none⟩) hlt).trans ((Lib.cell_of_heap HROW.out 4).trans rfl)
  have q5 : w1.cell? ⟨rb, 5, none⟩ = some (.int .u8 k2) := (HW1.out.cell (p := ⟨rb, 5, none⟩) hlt).trans ((Lib.cell_of_heap HROW.out 5).trans rfl)
  have q6 : w1.cell? ⟨rb, 6, none⟩ = some (.string nm2) := (HW1.out.cell (p := ⟨rb, 6, none⟩) hlt).trans ((Lib.cell_of_heap HROW.out 6).trans rfl)
  have q7 : w1.cell? ⟨rb, 7, none⟩ = some (.string tx2) := (HW1.out.cell (p := ⟨rb, 7, none⟩) hlt).trans ((Lib.cell_of_heap HROW.out 7).trans rfl)
  have q8 : w1.cell? ⟨rb, 8, none⟩ = some (.int .i64 n2) := (HW1.out.cell (p := ⟨rb, 8, none⟩) hlt).trans ((Lib.cell_of_heap HROW.out 8).trans rfl)
  have q9 : w1.cell? ⟨rb, 9, none⟩ = some (.int .i64 m2) := (HW1.out.cell (p := ⟨rb, 9, none⟩) hlt).trans ((Lib.cell_of_heap HROW.out 9).trans rfl)
  go_wp2_with fail
  go_ret
  exact ⟨rfl, by first | exact HW1.out | (go_grown; done)⟩
set_option maxRecDepth 100000 in
set_option maxHeartbeats 4000000 in
theorem asked_2_bad1_2 (g : Nat) (cap : Array Value) (c a : Value) (l : Bool) (k1 : Int) (tx1 : ByteArray) (n1 m1 : Int) (k2 : Int) (nm2 tx2 : ByteArray) (n2 m2 : Int) (yt : ByteArray) (yn : Int) (rb : Nat) (w : World) (hne : (yt.toList == tx1.toList) = false) (HROW : Hid (w.heap[rb]? = some (.cells #[.int .u8 k1, .string ⟨#[]⟩, .string tx1, .int .i64 n1, .int .i64 m1, .int .u8 k2, .string nm2, .string tx2, .int .i64 n2, .int .i64 m2] 23 (0, 0))))  (H1 : Hid (DoesU w 16 #[.agg #[.func (.func g) #[] cap, c, a, .bool l], .agg #[.int .u8 k1, .string ⟨#[]⟩, .string tx1, .int .i64 n1, .int .i64 m1]] (.tuple #[.agg #[.int .u8 k1, .string ⟨#[]⟩, .string yt, .int .i64 yn, .int .i64 0], .bool true]))) :
    Calls Tryz.prog 17 #[.agg #[.func (.func g) #[] cap, c, a, .bool l], .bool true, .slice (some ⟨rb, 0, none⟩) 2 2] w fun e w' => e = .returned (.int .i64 160) ∧ Below w.heap.size w w' := by
  have hlt : rb < w.heap.size := heap_lt HROW.out
  have q0 : w.cell? ⟨rb, 0, none⟩ = some (.int .u8 k1) := (Lib.cell_of_heap HROW.out 0).trans rfl
  have q1 : w.cell? ⟨rb, 1, none⟩ = some (.string ⟨#[]⟩) := (Lib.cell_of_heap HROW.out 1).trans rfl
  have q2 : w.cell? ⟨rb, 2, none⟩ = some (.string tx1) := (Lib.cell_of_heap HROW.out 2).trans rfl
  have q3 : w.cell? ⟨rb, 3, none⟩ = some (.int .i64 n1) := (Lib.cell_of_heap HROW.out 3).trans rfl
  have q4 : w.cell? ⟨rb, 4, none⟩ = some (.int .i64 m1) := (Lib.cell_of_heap HROW.out 4).trans rfl
  have q5 : w.cell? ⟨rb, 5, none⟩ = some (.int .u8 k2) := (Lib.cell_of_heap HROW.out 5).trans rfl
  have q6 : w.cell? ⟨rb, 6, none⟩ = some (.string nm2) := (Lib.cell_of_heap HROW.out 6).trans rfl
  have q7 : w.cell? ⟨rb, 7, none⟩ = some (.string tx2) := (Lib.cell_of_heap HROW.out 7).trans rfl
  have q8 : w.cell? ⟨rb, 8, none⟩ = some (.int .i64 n2) := (Lib.cell_of_heap HROW.out 8).trans rfl
  have q9 : w.cell? ⟨rb, 9, none⟩ = some (.int .i64 m2) := (Lib.cell_of_heap HROW.out 9).trans rfl
  go_enter Tryz.func17, Tryz.ntmps17
  go_wp2_with fail
  refine wp_loop_rounds 3 ?_
  rw [rounds_succ]
  go_wp2_with fail
  refine (H1.out _ (by first | exact Below.refl _ _ | (go_grown; done))).mono ?_; rintro e w1 ⟨rfl, hb⟩
  have hh0 : w1.heap[w.heap.size]? = some (.cells #[.func (.func g) #[] cap, c, a, .bool l] 41 (0, 0)) := (hb.block _ (by first | omega | (simp; done) | (simp; omega))).trans (heap_old (o' := (.cells #[.int .u8 k1, .string ⟨#[]⟩, .string tx1, .int .i64 n1, .int .i64 m1] 23 (0, 0))) (heap_new _ _ _ (by first | rfl | simp)))
  have hh1 : w1.heap[w.heap.size + 1]? = some (.cells #[.int .u8 k1, .string ⟨#[]⟩, .string tx1, .int .i64 n1, .int .i64 m1] 23 (0, 0)) := (hb.block _ (by first | omega | (simp; done) | (simp; omega))).trans (heap_new _ _ _ (by first | rfl | simp))
  have hbw1 : Below w.heap.size w w1 := (show Below w.heap.size w _ by first | exact Below.refl _ _ | (go_grown; done)).trans (hb.mono (by first | omega | (simp; done) | (simp; omega)))
  clear hb
  have HH0_1 := Lib.hid hh0
  have lt0 := heap_lt hh0
  have c0_0 : w1.cell? ⟨w.heap.size, 0, none⟩ = some (.func (.func g) #[] cap) := by rw [Lib.cell_of_heap hh0]; rfl
  have c0_1 : w1.cell? ⟨w.heap.size, 1, none⟩ = some (c) := by rw [Lib.cell_of_heap hh0]; rfl
  have c0_2 : w1.cell? ⟨w.heap.size, 2, none⟩ = some (a) := by rw [Lib.cell_of_heap hh0]; rfl
  have c0_3 : w1.cell? ⟨w.heap.size, 3, none⟩ = some (.bool l) := by rw [Lib.cell_of_heap hh0]; rfl
  clear hh0
  have HH1_1 := Lib.hid hh1
  have lt1 := heap_lt hh1
  have c1_0 : w1.cell? ⟨w.heap.size + 1, 0, none⟩ = some (.int .u8 k1) := by rw [Lib.cell_of_heap hh1]; rfl
  have c1_1 : w1.cell? ⟨w.heap.size + 1, 1, none⟩ = some (.string ⟨#[]⟩) := by rw [Lib.cell_of_heap hh1]; rfl
  have c1_2 : w1.cell? ⟨w.heap.size + 1, 2, none⟩ = some (.string tx1) := by rw [Lib.cell_of_heap hh1]; rfl
  have c1_3 : w1.cell? ⟨w.heap.size + 1, 3, none⟩ = some (.int .i64 n1) := by rw [Lib.cell_of_heap hh1]; rfl
  have c1_4 : w1.cell? ⟨w.heap.size + 1, 4, none⟩ = some (.int .i64 m1) := by rw [Lib.cell_of_heap hh1]; rfl
  clear hh1
  have sz1 := hbw1.size
  have HW1 := Lib.hid hbw1
  clear q0 q1 q2 q3 q4 q5 q6 q7 q8 q9
  have hl1 : rb < w1.heap.size := Nat.lt_of_lt_of_le hlt HW1.out.size
  have q0 : w1.cell? ⟨rb, 0, none⟩ = some (.int .u8 k1) := (HW1.out.cell (p := ⟨rb, 0, none⟩) hlt).trans ((Lib.cell_of_heap HROW.out 0).trans rfl)
  have q1 : w1.cell? ⟨rb, 1, none⟩ = some (.string ⟨#[]⟩) := (HW1.out.cell (p := ⟨rb, 1, none⟩) hlt).trans ((Lib.cell_of_heap HROW.out 1).trans rfl)
  have q2 : w1.cell? ⟨rb, 2, none⟩ = some (.string tx1) := (HW1.out.cell (p := ⟨rb, 2, none⟩) hlt).trans ((Lib.cell_of_heap HROW.out 2).trans rfl)
  have q3 : w1.cell? ⟨rb, 3, none⟩ = some (.int .i64 n1) := (HW1.out.cell (p := ⟨rb, 3, none⟩) hlt).trans ((Lib.cell_of_heap HROW.out 3).trans rfl)
  have q4 : w1.cell? ⟨rb, 4, none⟩ = some (.int .i64 m1) := (HW1.out.cell (p := ⟨rb, 4, none⟩) hlt).trans ((Lib.cell_of_heap HROW.out 4).trans rfl)
  have q5 : w1.cell? ⟨rb, 5, none⟩ = some (.int .u8 k2) := (HW1.out.cell (p := ⟨rb, 5, none⟩) hlt).trans ((Lib.cell_of_heap HROW.out 5).trans rfl)
  have q6 : w1.cell? ⟨rb, 6, none⟩ = some (.string nm2) := (HW1.out.cell (p := ⟨rb, 6, none⟩) hlt).trans ((Lib.cell_of_heap HROW.out 6).trans rfl)
  have q7 : w1.cell? ⟨rb, 7, none⟩ = some (.string tx2) := (HW1.out.cell (p := ⟨rb, 7, none⟩) hlt).trans ((Lib.cell_of_heap HROW.out 7).trans rfl)
  have q8 : w1.cell? ⟨rb, 8, none⟩ = some (.int .i64 n2) := (HW1.out.cell (p := ⟨rb, 8, none⟩) hlt).trans ((Lib.cell_of_heap HROW.out 8).trans rfl)
  have q9 : w1.cell? ⟨rb, 9, none⟩ = some (.int .i64 m2) := (HW1.out.cell (p := ⟨rb, 9, none⟩) hlt).trans ((Lib.cell_of_heap HROW.out 9).trans rfl)
  go_wp2_with fail
  go_ret
  exact ⟨rfl, by first | exact HW1.out | (go_grown; done)⟩
set_option maxRecDepth 100000 in
set_option maxHeartbeats 4000000 in
theorem asked_2_bad1_3 (g : Nat) (cap : Array Value) (c a : Value) (l : Bool) (k1 : Int) (tx1 : ByteArray) (n1 m1 : Int) (k2 : Int) (nm2 tx2 : ByteArray) (n2 m2 : Int) (yn : Int) (rb : Nat) (w : World) (hne : (yn == n1) = false) (HROW : Hid (w.heap[rb]? = some (.cells #[.int .u8 k1, .string ⟨#[]⟩, .string tx1, .int .i64 n1, .int .i64 m1, .int .u8 k2, .string nm2, .string tx2, .int .i64 n2, .int .i64 m2] 23 (0, 0))))  (H1 : Hid (DoesU w 16 #[.agg #[.func (.func g) #[] cap, c, a, .bool l], .agg #[.int .u8 k1, .string ⟨#[]⟩, .string tx1, .int .i64 n1, .int .i64 m1]] (.tuple #[.agg #[.int .u8 k1, .string ⟨#[]⟩, .string tx1, .int .i64 yn, .int .i64 0], .bool true]))) :
    Calls Tryz.prog 17 #[.agg #[.func (.func g) #[] cap, c, a, .bool l], .bool true, .slice (some ⟨rb, 0, none⟩) 2 2] w fun e w' => e = .returned (.int .i64 160) ∧ Below w.heap.size w w' := by
  have hlt : rb < w.heap.size := heap_lt HROW.out
  have q0 : w.cell? ⟨rb, 0, none⟩ = some (.int .u8 k1) := (Lib.cell_of_heap HROW.out 0).trans rfl
  have q1 : w.cell? ⟨rb, 1, none⟩ = some (.string ⟨#[]⟩) := (Lib.cell_of_heap HROW.out 1).trans rfl
  have q2 : w.cell? ⟨rb, 2, none⟩ = some (.string tx1) := (Lib.cell_of_heap HROW.out 2).trans rfl
  have q3 : w.cell? ⟨rb, 3, none⟩ = some (.int .i64 n1) := (Lib.cell_of_heap HROW.out 3).trans rfl
  have q4 : w.cell? ⟨rb, 4, none⟩ = some (.int .i64 m1) := (Lib.cell_of_heap HROW.out 4).trans rfl
  have q5 : w.cell? ⟨rb, 5, none⟩ = some (.int .u8 k2) := (Lib.cell_of_heap HROW.out 5).trans rfl
  have q6 : w.cell? ⟨rb, 6, none⟩ = some (.string nm2) := (Lib.cell_of_heap HROW.out 6).trans rfl
  have q7 : w.cell? ⟨rb, 7, none⟩ = some (.string tx2) := (Lib.cell_of_heap HROW.out 7).trans rfl
  have q8 : w.cell? ⟨rb, 8, none⟩ = some (.int .i64 n2) := (Lib.cell_of_heap HROW.out 8).trans rfl
  have q9 : w.cell? ⟨rb, 9, none⟩ = some (.int .i64 m2) := (Lib.cell_of_heap HROW.out 9).trans rfl
  go_enter Tryz.func17, Tryz.ntmps17
  go_wp2_with fail
  refine wp_loop_rounds 3 ?_
  rw [rounds_succ]
  go_wp2_with fail
  refine (H1.out _ (by first | exact Below.refl _ _ | (go_grown; done))).mono ?_; rintro e w1 ⟨rfl, hb⟩
  have hh0 : w1.heap[w.heap.size]? = some (.cells #[.func (.func g) #[] cap, c, a, .bool l] 41 (0, 0)) := (hb.block _ (by first | omega | (simp; done) | (simp; omega))).trans (heap_old (o' := (.cells #[.int .u8 k1, .string ⟨#[]⟩, .string tx1, .int .i64 n1, .int .i64 m1] 23 (0, 0))) (heap_new _ _ _ (by first | rfl | simp)))
  have hh1 : w1.heap[w.heap.size + 1]? = some (.cells #[.int .u8 k1, .string ⟨#[]⟩, .string tx1, .int .i64 n1, .int .i64 m1] 23 (0, 0)) := (hb.block _ (by first | omega | (simp; done) | (simp; omega))).trans (heap_new _ _ _ (by first | rfl | simp))
  have hbw1 : Below w.heap.size w w1 := (show Below w.heap.size w _ by first | exact Below.refl _ _ | (go_grown; done)).trans (hb.mono (by first | omega | (simp; done) | (simp; omega)))
  clear hb
  have HH0_1 := Lib.hid hh0
  have lt0 := heap_lt hh0
  have c0_0 : w1.cell? ⟨w.heap.size, 0, none⟩ = some (.func (.func g) #[] cap) := by rw [Lib.cell_of_heap hh0]; rfl
  have c0_1 : w1.cell? ⟨w.heap.size, 1, none⟩ = some (c) := by rw [Lib.cell_of_heap hh0]; rfl
  have c0_2 : w1.cell? ⟨w.heap.size, 2, none⟩ = some (a) := by rw [Lib.cell_of_heap hh0]; rfl
  have c0_3 : w1.cell? ⟨w.heap.size, 3, none⟩ = some (.bool l) := by rw [Lib.cell_of_heap hh0]; rfl
  clear hh0
  have HH1_1 := Lib.hid hh1
  have lt1 := heap_lt hh1
  have c1_0 : w1.cell? ⟨w.heap.size + 1, 0, none⟩ = some (.int .u8 k1) := by rw [Lib.cell_of_heap hh1]; rfl
  have c1_1 : w1.cell? ⟨w.heap.size + 1, 1, none⟩ = some (.string ⟨#[]⟩) := by rw [Lib.cell_of_heap hh1]; rfl
  have c1_2 : w1.cell? ⟨w.heap.size + 1, 2, none⟩ = some (.string tx1) := by rw [Lib.cell_of_heap hh1]; rfl
  have c1_3 : w1.cell? ⟨w.heap.size + 1, 3, none⟩ = some (.int .i64 n1) := by rw [Lib.cell_of_heap hh1]; rfl
  have c1_4 : w1.cell? ⟨w.heap.size + 1, 4, none⟩ = some (.int .i64 m1) := by rw [Lib.cell_of_heap hh1]; rfl
  clear hh1
  have sz1 := hbw1.size
  have HW1 := Lib.hid hbw1
  clear q0 q1 q2 q3 q4 q5 q6 q7 q8 q9
  have hl1 : rb < w1.heap.size := Nat.lt_of_lt_of_le hlt HW1.out.size
  have q0 : w1.cell? ⟨rb, 0, none⟩ = some (.int .u8 k1) := (HW1.out.cell (p := ⟨rb, 0, none⟩) hlt).trans ((Lib.cell_of_heap HROW.out 0).trans rfl)
  have q1 : w1.cell? ⟨rb, 1, none⟩ = some (.string ⟨#[]⟩) := (HW1.out.cell (p := ⟨rb, 1, none⟩) hlt).trans ((Lib.cell_of_heap HROW.out 1).trans rfl)
  have q2 : w1.cell? ⟨rb, 2, none⟩ = some (.string tx1) := (HW1.out.cell (p := ⟨rb, 2, none⟩) hlt).trans ((Lib.cell_of_heap HROW.out 2).trans rfl)
  have q3 : w1.cell? ⟨rb, 3, none⟩ = some (.int .i64 n1) := (HW1.out.cell (p := ⟨rb, 3, none⟩) hlt).trans ((Lib.cell_of_heap HROW.out 3).trans rfl)
  have q4 : w1.cell? ⟨rb, 4, none⟩ = some (.int .i64 m1) := (HW1.out.cell (p := ⟨rb, 4, none⟩) hlt).trans ((Lib.cell_of_heap HROW.out 4).trans rfl)
  have q5 : w1.cell? ⟨rb, 5, none⟩ = some (.int .u8 k2) := (HW1.out.cell (p := ⟨rb, 5, none⟩) hlt).trans ((Lib.cell_of_heap HROW.out 5).trans rfl)
  have q6 : w1.cell? ⟨rb, 6, none⟩ = some (.string nm2) := (HW1.out.cell (p := ⟨rb, 6, none⟩) hlt).trans ((Lib.cell_of_heap HROW.out 6).trans rfl)
  have q7 : w1.cell? ⟨rb, 7, none⟩ = some (.string tx2) := (HW1.out.cell (p := ⟨rb, 7, none⟩) hlt).trans ((Lib.cell_of_heap HROW.out 7).trans rfl)
  have q8 : w1.cell? ⟨rb, 8, none⟩ = some (.int .i64 n2) := (HW1.out.cell (p := ⟨rb, 8, none⟩) hlt).trans ((Lib.cell_of_heap HROW.out 8).trans rfl)
  have q9 : w1.cell? ⟨rb, 9, none⟩ = some (.int .i64 m2) := (HW1.out.cell (p := ⟨rb, 9, none⟩) hlt).trans ((Lib.cell_of_heap HROW.out 9).trans rfl)
  go_wp2_with fail
  go_ret
  exact ⟨rfl, by first | exact HW1.out | (go_grown; done)⟩
set_option maxRecDepth 100000 in
set_option maxHeartbeats 4000000 in
theorem asked_2_bad1_4 (g : Nat) (cap : Array Value) (c a : Value) (l : Bool) (k1 : Int) (tx1 : ByteArray) (n1 m1 : Int) (k2 : Int) (nm2 tx2 : ByteArray) (n2 m2 : Int)  (rb : Nat) (w : World) (hne : ((0 : Int) == m1) = false) (HROW : Hid (w.heap[rb]? = some (.cells #[.int .u8 k1, .string ⟨#[]⟩, .string tx1, .int .i64 n1, .int .i64 m1, .int .u8 k2, .string nm2, .string tx2, .int .i64 n2, .int .i64 m2] 23 (0, 0))))  (H1 : Hid (DoesU w 16 #[.agg #[.func (.func g) #[] cap, c, a, .bool l], .agg #[.int .u8 k1, .string ⟨#[]⟩, .string tx1, .int .i64 n1, .int .i64 m1]] (.tuple #[.agg #[.int .u8 k1, .string ⟨#[]⟩, .string tx1, .int .i64 n1, .int .i64 0], .bool true]))) :
    Calls Tryz.prog 17 #[.agg #[.func (.func g) #[] cap, c, a, .bool l], .bool true, .slice (some ⟨rb, 0, none⟩) 2 2] w fun e w' => e = .returned (.int .i64 160) ∧ Below w.heap.size w w' := by
  have hlt : rb < w.heap.size := heap_lt HROW.out
  have q0 : w.cell? ⟨rb, 0, none⟩ = some (.int .u8 k1) := (Lib.cell_of_heap HROW.out 0).trans rfl
  have q1 : w.cell? ⟨rb, 1, none⟩ = some (.string ⟨#[]⟩) := (Lib.cell_of_heap HROW.out 1).trans rfl
  have q2 : w.cell? ⟨rb, 2, none⟩ = some (.string tx1) := (Lib.cell_of_heap HROW.out 2).trans rfl
  have q3 : w.cell? ⟨rb, 3, none⟩ = some (.int .i64 n1) := (Lib.cell_of_heap HROW.out 3).trans rfl
  have q4 : w.cell? ⟨rb, 4, none⟩ = some (.int .i64 m1) := (Lib.cell_of_heap HROW.out 4).trans rfl
  have q5 : w.cell? ⟨rb, 5, none⟩ = some (.int .u8 k2) := (Lib.cell_of_heap HROW.out 5).trans rfl
  have q6 : w.cell? ⟨rb, 6, none⟩ = some (.string nm2) := (Lib.cell_of_heap HROW.out 6).trans rfl
  have q7 : w.cell? ⟨rb, 7, none⟩ = some (.string tx2) := (Lib.cell_of_heap HROW.out 7).trans rfl
  have q8 : w.cell? ⟨rb, 8, none⟩ = some (.int .i64 n2) := (Lib.cell_of_heap HROW.out 8).trans rfl
  have q9 : w.cell? ⟨rb, 9, none⟩ = some (.int .i64 m2) := (Lib.cell_of_heap HROW.out 9).trans rfl
  go_enter Tryz.func17, Tryz.ntmps17
  go_wp2_with fail
  refine wp_loop_rounds 3 ?_
  rw [rounds_succ]
  go_wp2_with fail
  refine (H1.out _ (by first | exact Below.refl _ _ | (go_grown; done))).mono ?_; rintro e w1 ⟨rfl, hb⟩
  have hh0 : w1.heap[w.heap.size]? = some (.cells #[.func (.func g) #[] cap, c, a, .bool l] 41 (0, 0)) := (hb.block _ (by first | omega | (simp; done) | (simp; omega))).trans (heap_old (o' := (.cells #[.int .u8 k1, .string ⟨#[]⟩, .string tx1, .int .i64 n1, .int .i64 m1] 23 (0, 0))) (heap_new _ _ _ (by first | rfl | simp)))
  have hh1 : w1.heap[w.heap.size + 1]? = some (.cells #[.int .u8 k1, .string ⟨#[]⟩, .string tx1, .int .i64 n1, .int .i64 m1] 23 (0, 0)) := (hb.block _ (by first | omega | (simp; done) | (simp; omega))).trans (heap_new _ _ _ (by first | rfl | simp))
  have hbw1 : Below w.heap.size w w1 := (show Below w.heap.size w _ by first | exact Below.refl _ _ | (go_grown; done)).trans (hb.mono (by first | omega | (simp; done) | (simp; omega)))
  clear hb
  have HH0_1 := Lib.hid hh0
  have lt0 := heap_lt hh0
  have c0_0 : w1.cell? ⟨w.heap.size, 0, none⟩ = some (.func (.func g) #[] cap) := by rw [Lib.cell_of_heap hh0]; rfl
  have c0_1 : w1.cell? ⟨w.heap.size, 1, none⟩ = some (c) := by rw [Lib.cell_of_heap hh0]; rfl
  have c0_2 : w1.cell? ⟨w.heap.size, 2, none⟩ = some (a) := by rw [Lib.cell_of_heap hh0]; rfl
  have c0_3 : w1.cell? ⟨w.heap.size, 3, none⟩ = some (.bool l) := by rw [Lib.cell_of_heap hh0]; rfl
  clear hh0
  have HH1_1 := Lib.hid hh1
  have lt1 := heap_lt hh1
  have c1_0 : w1.cell? ⟨w.heap.size + 1, 0, none⟩ = some (.int .u8 k1) := by rw [Lib.cell_of_heap hh1]; rfl
  have c1_1 : w1.cell? ⟨w.heap.size + 1, 1, none⟩ = some (.string ⟨#[]⟩) := by rw [Lib.cell_of_heap hh1]; rfl
  have c1_2 : w1.cell? ⟨w.heap.size + 1, 2, none⟩ = some (.string tx1) := by rw [Lib.cell_of_heap hh1]; rfl
  have c1_3 : w1.cell? ⟨w.heap.size + 1, 3, none⟩ = some (.int .i64 n1) := by rw [Lib.cell_of_heap hh1]; rfl
  have c1_4 : w1.cell? ⟨w.heap.size + 1, 4, none⟩ = some (.int .i64 m1) := by rw [Lib.cell_of_heap hh1]; rfl
  clear hh1
  have sz1 := hbw1.size
  have HW1 := Lib.hid hbw1
  clear q0 q1 q2 q3 q4 q5 q6 q7 q8 q9
  have hl1 : rb < w1.heap.size := Nat.lt_of_lt_of_le hlt HW1.out.size
  have q0 : w1.cell? ⟨rb, 0, none⟩ = some (.int .u8 k1) := (HW1.out.cell (p := ⟨rb, 0, none⟩) hlt).trans ((Lib.cell_of_heap HROW.out 0).trans rfl)
  have q1 : w1.cell? ⟨rb, 1, none⟩ = some (.string ⟨#[]⟩) := (HW1.out.cell (p := ⟨rb, 1, none⟩) hlt).trans ((Lib.cell_of_heap HROW.out 1).trans rfl)
  have q2 : w1.cell? ⟨rb, 2, none⟩ = some (.string tx1) := (HW1.out.cell (p := ⟨rb, 2, none⟩) hlt).trans ((Lib.cell_of_heap HROW.out 2).trans rfl)
  have q3 : w1.cell? ⟨rb, 3, none⟩ = some (.int .i64 n1) := (HW1.out.cell (p := ⟨rb, 3, none⟩) hlt).trans ((Lib.cell_of_heap HROW.out 3).trans rfl)
  have q4 : w1.cell? ⟨rb, 4, none⟩ = some (.int .i64 m1) := (HW1.out.cell (p := ⟨rb, 4, none⟩) hlt).trans ((Lib.cell_of_heap HROW.out 4).trans rfl)
  have q5 : w1.cell? ⟨rb, 5, none⟩ = some (.int .u8 k2) := (HW1.out.cell (p := ⟨rb, 5, none⟩) hlt).trans ((Lib.cell_of_heap HROW.out 5).trans rfl)
  have q6 : w1.cell? ⟨rb, 6, none⟩ = some (.string nm2) := (HW1.out.cell (p := ⟨rb, 6, none⟩) hlt).trans ((Lib.cell_of_heap HROW.out 6).trans rfl)
  have q7 : w1.cell? ⟨rb, 7, none⟩ = some (.string tx2) := (HW1.out.cell (p := ⟨rb, 7, none⟩) hlt).trans ((Lib.cell_of_heap HROW.out 7).trans rfl)
  have q8 : w1.cell? ⟨rb, 8, none⟩ = some (.int .i64 n2) := (HW1.out.cell (p := ⟨rb, 8, none⟩) hlt).trans ((Lib.cell_of_heap HROW.out 8).trans rfl)
  have q9 : w1.cell? ⟨rb, 9, none⟩ = some (.int .i64 m2) := (HW1.out.cell (p := ⟨rb, 9, none⟩) hlt).trans ((Lib.cell_of_heap HROW.out 9).trans rfl)
  go_wp2_with fail
  go_ret
  exact ⟨rfl, by first | exact HW1.out | (go_grown; done)⟩
set_option maxRecDepth 100000 in
set_option maxHeartbeats 4000000 in
theorem asked_2_bad2_x (g : Nat) (cap : Array Value) (c a : Value) (l : Bool) (k1 : Int) (nm1 tx1 : ByteArray) (n1 m1 : Int) (k2 : Int) (nm2 tx2 : ByteArray) (n2 m2 : Int) (yk : Int) (yt : ByteArray) (yn : Int) (rb : Nat) (w : World)  (HROW : Hid (w.heap[rb]? = some (.cells #[.int .u8 k1, .string nm1, .string tx1, .int .i64 n1, .int .i64 m1, .int .u8 k2, .string nm2, .string tx2, .int .i64 n2, .int .i64 m2] 23 (0, 0)))) (H1 : Hid (DoesU w 16 #[.agg #[.func (.func g) #[] cap, c, a, .bool l], .agg #[.int .u8 k1, .string nm1, .string tx1, .int .i64 n1, .int .i64 m1]] (.tuple #[.agg #[.int .u8 k1, .string nm1, .string tx1, .int .i64 n1, .int .i64 m1], .bool true]))) (H2 : Hid (DoesU w 16 #[.agg #[.func (.func g) #[] cap, c, a, .bool l], .agg #[.int .u8 k2, .string nm2, .string tx2, .int .i64 n2, .int .i64 m2]] (.tuple #[.agg #[.int .u8 yk, .string ⟨#[]⟩, .string yt, .int .i64 yn, .int .i64 0], .bool false]))) :
    Calls Tryz.prog 17 #[.agg #[.func (.func g) #[] cap, c, a, .bool l], .bool true, .slice (some ⟨rb, 0, none⟩) 2 2] w fun e w' => e = .returned (.int .i64 160) ∧ Below w.heap.size w w' := by
  have hlt : rb < w.heap.size := heap_lt HROW.out
  have q0 : w.cell? ⟨rb, 0, none⟩ = some (.int .u8 k1) := (Lib.cell_of_heap HROW.out 0).trans rfl
  have q1 : w.cell? ⟨rb, 1, none⟩ = some (.string nm1) := (Lib.cell_of_heap HROW.out 1).trans rfl
  have q2 : w.cell? ⟨rb, 2, none⟩ = some (.string tx1) := (Lib.cell_of_heap HROW.out 2).trans rfl
  have q3 : w.cell? ⟨rb, 3, none⟩ = some (.int .i64 n1) := (Lib.cell_of_heap HROW.out 3).trans rfl
  have q4 : w.cell? ⟨rb, 4, none⟩ = some (.int .i64 m1) := (Lib.cell_of_heap HROW.out 4).trans rfl
  have q5 : w.cell? ⟨rb, 5, none⟩ = some (.int .u8 k2) := (Lib.cell_of_heap HROW.out 5).trans rfl
  have q6 : w.cell? ⟨rb, 6, none⟩ = some (.string nm2) := (Lib.cell_of_heap HROW.out 6).trans rfl
  have q7 : w.cell? ⟨rb, 7, none⟩ = some (.string tx2) := (Lib.cell_of_heap HROW.out 7).trans rfl
  have q8 : w.cell? ⟨rb, 8, none⟩ = some (.int .i64 n2) := (Lib.cell_of_heap HROW.out 8).trans rfl
  have q9 : w.cell? ⟨rb, 9, none⟩ = some (.int .i64 m2) := (Lib.cell_of_heap HROW.out 9).trans rfl
  go_enter Tryz.func17, Tryz.ntmps17
  go_wp2_with fail
  refine wp_loop_rounds 3 ?_
  rw [rounds_succ]
  go_wp2_with fail
  refine (H1.out _ (by first | exact Below.refl _ _ | (go_grown; done))).mono ?_; rintro e w1 ⟨rfl, hb⟩
  have hh0 : w1.heap[w.heap.size]? = some (.cells #[.func (.func g) #[] cap, c, a, .bool l] 41 (0, 0)) := (hb.block _ (by first | omega | (simp; done) | (simp; omega))).trans (heap_old (o' := (.cells #[.int .u8 k1, .string nm1, .string tx1, .int .i64 n1, .int .i64 m1] 23 (0, 0))) (heap_new _ _ _ (by first | rfl | simp)))
  have hh1 : w1.heap[w.heap.size + 1]? = some (.cells #[.int .u8 k1, .string nm1, .string tx1, .int .i64 n1, .int .i64 m1] 23 (0, 0)) := (hb.block _ (by first | omega | (simp; done) | (simp; omega))).trans (heap_new _ _ _ (by first | rfl | simp))
  have hbw1 : Below w.heap.size w w1 := (show Below w.heap.size w _ by first | exact Below.refl _ _ | (go_grown; done)).trans (hb.mono (by first | omega | (simp; done) | (simp; omega)))
  clear hb
  have HH0_1 := Lib.hid hh0
  have lt0 := heap_lt hh0
  have c0_0 : w1.cell? ⟨w.heap.size, 0, none⟩ = some (.func (.func g) #[] cap) := by rw [Lib.cell_of_heap hh0]; rfl
  have c0_1 : w1.cell? ⟨w.heap.size, 1, none⟩ = some (c) := by rw [Lib.cell_of_heap hh0]; rfl
  have c0_2 : w1.cell? ⟨w.heap.size, 2, none⟩ = some (a) := by rw [Lib.cell_of_heap hh0]; rfl
  have c0_3 : w1.cell? ⟨w.heap.size, 3, none⟩ = some (.bool l) := by rw [Lib.cell_of_heap hh0]; rfl
  clear hh0
  have HH1_1 := Lib.hid hh1
  have lt1 := heap_lt hh1
  have c1_0 : w1.cell? ⟨w.heap.size + 1, 0, none⟩ = some (.int .u8 k1) := by rw [Lib.cell_of_heap hh1]; rfl
  have c1_1 : w1.cell? ⟨w.heap.size + 1, 1, none⟩ = some (.string nm1) := by rw [Lib.cell_of_heap hh1]; rfl
  have c1_2 : w1.cell? ⟨w.heap.size + 1, 2, none⟩ = some (.string tx1) := by rw [Lib.cell_of_heap hh1]; rfl
  have c1_3 : w1.cell? ⟨w.heap.size + 1, 3, none⟩ = some (.int .i64 n1) := by rw [Lib.cell_of_heap hh1]; rfl
  have c1_4 : w1.cell? ⟨w.heap.size + 1, 4, none⟩ = some (.int .i64 m1) := by rw [Lib.cell_of_heap hh1]; rfl
  clear hh1
  have sz1 := hbw1.size
  have HW1 := Lib.hid hbw1
  clear q0 q1 q2 q3 q4 q5 q6 q7 q8 q9
  have hl1 : rb < w1.heap.size := Nat.lt_of_lt_of_le hlt HW1.out.size
  have q0 : w1.cell? ⟨rb, 0, none⟩ = some (.int .u8 k1) := (HW1.out.cell (p := ⟨rb, 0, none⟩) hlt).trans ((Lib.cell_of_heap HROW.out 0).trans rfl)
  have q1 : w1.cell? ⟨rb, 1, none⟩ = some (.string nm1) := (HW1.out.cell (p := ⟨rb, 1, none⟩) hlt).trans ((Lib.cell_of_heap HROW.out 1).trans rfl)
  have q2 : w1.cell? ⟨rb, 2, none⟩ = some (.string tx1) := (HW1.out.cell (p := ⟨rb, 2, none⟩) hlt).trans ((Lib.cell_of_heap HROW.out 2).trans rfl)
  have q3 : w1.cell? ⟨rb, 3, none⟩ = some (.int .i64 n1) := (HW1.out.cell (p := ⟨rb, 3, none⟩) hlt).trans ((Lib.cell_of_heap HROW.out 3).trans rfl)
  have q4 : w1.cell? ⟨rb, 4, none⟩ = some (.int .i64 m1) := (HW1.out.cell (p := ⟨rb, 4, none⟩) hlt).trans ((Lib.cell_of_heap HROW.out 4).trans rfl)
  have q5 : w1.cell? ⟨rb, 5, none⟩ = some (.int .u8 k2) := (HW1.out.cell (p := ⟨rb, 5, none⟩) hlt).trans ((Lib.cell_of_heap HROW.out 5).trans rfl)
  have q6 : w1.cell? ⟨rb, 6, none⟩ = some (.string nm2) := (HW1.out.cell (p := ⟨rb, 6, none⟩) hlt).trans ((Lib.cell_of_heap HROW.out 6).trans rfl)
  have q7 : w1.cell? ⟨rb, 7, none⟩ = some (.string tx2) := (HW1.out.cell (p := ⟨rb, 7, none⟩) hlt).trans ((Lib.cell_of_heap HROW.out 7).trans rfl)
  have q8 : w1.cell? ⟨rb, 8, none⟩ = some (.int .i64 n2) := (HW1.out.cell (p := ⟨rb, 8, none⟩) hlt).trans ((Lib.cell_of_heap HROW.out 8).trans rfl)
  have q9 : w1.cell? ⟨rb, 9, none⟩ = some (.int .i64 m2) := (HW1.out.cell (p := ⟨rb, 9, none⟩) hlt).trans ((Lib.cell_of_heap HROW.out 9).trans rfl)
  go_wp2_with fail
  rw [rounds_succ]
  go_wp2_with fail
  refine (H2.out _ (by first | exact HW1.out | exact HW1.out.trans ⟨rfl, rfl, rfl, Nat.le_refl _, fun _ _ => rfl⟩ | (go_grown; done))).mono ?_; rintro e w2 ⟨rfl, hb⟩
  have hv0 := heap_old (o' := (.cells #[.int .u8 k2, .string nm2, .string tx2, .int .i64 n2, .int .i64 m2] 23 (0, 0))) (heap_old (o' := (.cells #[.int .u8 k1, .string nm1, .string tx1, .int .i64 n1, .int .i64 m1] 23 (0, 0))) (HH0_1.out))
  have hh0 : w2.heap[w.heap.size]? = some (.cells #[.func (.func g) #[] cap, c, a, .bool l] 41 (0, 0)) := (hb.block _ (heap_lt hv0)).trans hv0
  clear hv0
  have hv1 := heap_old (o' := (.cells #[.int .u8 k2, .string nm2, .string tx2, .int .i64 n2, .int .i64 m2] 23 (0, 0))) (heap_old (o' := (.cells #[.int .u8 k1, .string nm1, .string tx1, .int .i64 n1, .int .i64 m1] 23 (0, 0))) (HH1_1.out))
  have hh1 : w2.heap[w.heap.size + 1]? = some (.cells #[.int .u8 k1, .string nm1, .string tx1, .int .i64 n1, .int .i64 m1] 23 (0, 0)) := (hb.block _ (heap_lt hv1)).trans hv1
  clear hv1
  have hh2 : w2.heap[w1.heap.size]? = some (.cells #[.int .u8 k1, .string nm1, .string tx1, .int .i64 n1, .int .i64 m1] 23 (0, 0)) := (hb.block _ (by first | omega | (simp; done) | (simp; omega))).trans (heap_old (o' := (.cells #[.int .u8 k2, .string nm2, .string tx2, .int .i64 n2, .int .i64 m2] 23 (0, 0))) (heap_new _ _ _ (by first | rfl | simp)))
  have hh3 : w2.heap[w1.heap.size + 1]? = some (.cells #[.int .u8 k2, .string nm2, .string tx2, .int .i64 n2, .int .i64 m2] 23 (0, 0)) := (hb.block _ (by first | omega | (simp; done) | (simp; omega))).trans (heap_new _ _ _ (by first | rfl | simp))
  have hbw2 : Below w.heap.size w w2 := (show Below w.heap.size w _ by first | exact HW1.out.trans ⟨rfl, rfl, rfl, Nat.le_refl _, fun _ _ => rfl⟩ | exact HW1.out | (go_grown; done)).trans (hb.mono (by first | omega | (simp; done) | (simp; omega)))
  clear hb lt0 c0_0 c0_1 c0_2 c0_3 lt1 c1_0 c1_1 c1_2 c1_3 c1_4 hbw1
  have HH0_2 := Lib.hid hh0
  have lt0 := heap_lt hh0
  have c0_0 : w2.cell? ⟨w.heap.size, 0, none⟩ = some (.func (.func g) #[] cap) := by rw [Lib.cell_of_heap hh0]; rfl
  have c0_1 : w2.cell? ⟨w.heap.size, 1, none⟩ = some (c) := by rw [Lib.cell_of_heap hh0]; rfl
  have c0_2 : w2.cell? ⟨w.heap.size, 2, none⟩ = some (a) := by rw [Lib.cell_of_heap hh0]; rfl
  have c0_3 : w2.cell? ⟨w.heap.size, 3, none⟩ = some (.bool l) := by rw [Lib.cell_of_heap hh0]; rfl
  clear hh0
  have HH1_2 := Lib.hid hh1
  have lt1 := heap_lt hh1
  have c1_0 : w2.cell? ⟨w.heap.size + 1, 0, none⟩ = some (.int .u8 k1) := by rw [Lib.cell_of_heap hh1]; rfl
  have c1_1 : w2.cell? ⟨w.heap.size + 1, 1, none⟩ = some (.string nm1) := by rw [Lib.cell_of_heap hh1]; rfl
  have c1_2 : w2.cell? ⟨w.heap.size + 1, 2, none⟩ = some (.string tx1) := by rw [Lib.cell_of_heap hh1]; rfl
  have c1_3 : w2.cell? ⟨w.heap.size + 1, 3, none⟩ = some (.int .i64 n1) := by rw [Lib.cell_of_heap hh1]; rfl
  have c1_4 : w2.cell? ⟨w.heap.size + 1, 4, none⟩ = some (.int .i64 m1) := by rw [Lib.cell_of_heap hh1]; rfl
  clear hh1
  have HH2_2 := Lib.hid hh2
  have lt2 := heap_lt hh2
  have c2_0 : w2.cell? ⟨w1.heap.size, 0, none⟩ = some (.int .u8 k1) := by rw [Lib.cell_of_heap hh2]; rfl
  have c2_1 : w2.cell? ⟨w1.heap.size, 1, none⟩ = some (.string nm1) := by rw [Lib.cell_of_heap hh2]; rfl
  have c2_2 : w2.cell? ⟨w1.heap.size, 2, none⟩ = some (.string tx1) := by rw [Lib.cell_of_heap hh2]; rfl
  have c2_3 : w2.cell? ⟨w1.heap.size, 3, none⟩ = some (.int .i64 n1) := by rw [Lib.cell_of_heap hh2]; rfl
  have c2_4 : w2.cell? ⟨w1.heap.size, 4, none⟩ = some (.int .i64 m1) := by rw [Lib.cell_of_heap hh2]; rfl
  clear hh2
  have HH3_2 := Lib.hid hh3
  have lt3 := heap_lt hh3
  have c3_0 : w2.cell? ⟨w1.heap.size + 1, 0, none⟩ = some (.int .u8 k2) := by rw [Lib.cell_of_heap hh3]; rfl
  have c3_1 : w2.cell? ⟨w1.heap.size + 1, 1, none⟩ = some (.string nm2) := by rw [Lib.cell_of_heap hh3]; rfl
  have c3_2 : w2.cell? ⟨w1.heap.size + 1, 2, none⟩ = some (.string tx2) := by rw [Lib.cell_of_heap hh3]; rfl
  have c3_3 : w2.cell? ⟨w1.heap.size + 1, 3, none⟩ = some (.int .i64 n2) := by rw [Lib.cell_of_heap hh3]; rfl
  have c3_4 : w2.cell? ⟨w1.heap.size + 1, 4, none⟩ = some (.int .i64 m2) := by rw [Lib.cell_of_heap hh3]; rfl
  clear hh3
  have sz2 := hbw2.size
  have HW2 := Lib.hid hbw2
  clear q0 q1 q2 q3 q4 q5 q6 q7 q8 q9
  have hl2 : rb < w2.heap.size := Nat.lt_of_lt_of_le hlt HW2.out.size
  have q0 : w2.cell? ⟨rb, 0, none⟩ = some (.int .u8 k1) := (HW2.out.cell (p := ⟨rb, 0, none⟩) hlt).trans ((Lib.cell_of_heap HROW.out 0).trans rfl)
  have q1 : w2.cell? ⟨rb, 1, none⟩ = some (.string nm1) := (HW2.out.cell (p := ⟨rb, 1, none⟩) hlt).trans ((Lib.cell_of_heap HROW.out 1).trans rfl)
  have q2 : w2.cell? ⟨rb, 2, none⟩ = some (.string tx1) := (HW2.out.cell (p := ⟨rb, 2, none⟩) hlt).trans ((Lib.cell_of_heap HROW.out 2).trans rfl)
  have q3 : w2.cell? ⟨rb, 3, none⟩ = some (.int .i64 n1) := (HW2.out.cell (p := ⟨rb, 3, none⟩) hlt).trans ((Lib.cell_of_heap HROW.out 3).trans rfl)
  have q4 : w2.cell? ⟨rb, 4, none⟩ = some (.int .i64 m1) := (HW2.out.cell (p := ⟨rb, 4, none⟩) hlt).trans ((Lib.cell_of_heap HROW.out 4).trans rfl)
  have q5 : w2.cell? ⟨rb, 5, none⟩ = some (.int .u8 k2) := (HW2.out.cell (p := ⟨rb, 5, none⟩) hlt).trans ((Lib.cell_of_heap HROW.out 5).trans rfl)
  have q6 : w2.cell? ⟨rb, 6, none⟩ = some (.string nm2) := (HW2.out.cell (p := ⟨rb, 6, none⟩) hlt).trans ((Lib.cell_of_heap HROW.out 6).trans rfl)
  have q7 : w2.cell? ⟨rb, 7, none⟩ = some (.string tx2) := (HW2.out.cell (p := ⟨rb, 7, none⟩) hlt).trans ((Lib.cell_of_heap HROW.out 7).trans rfl)
  have q8 : w2.cell? ⟨rb, 8, none⟩ = some (.int .i64 n2) := (HW2.out.cell (p := ⟨rb, 8, none⟩) hlt).trans ((Lib.cell_of_heap HROW.out 8).trans rfl)
  have q9 : w2.cell? ⟨rb, 9, none⟩ = some (.int .i64 m2) := (HW2.out.cell (p := ⟨rb, 9, none⟩) hlt).trans ((Lib.cell_of_heap HROW.out 9).trans rfl)
  go_wp2_with fail
  go_ret
  exact ⟨rfl, by first | exact HW2.out | (go_grown; done)⟩
set_option maxRecDepth 100000 in
set_option maxHeartbeats 4000000 in
theorem asked_2_bad2_0 (g : Nat) (cap : Array Value) (c a : Value) (l : Bool) (k1 : Int) (nm1 tx1 : ByteArray) (n1 m1 : Int) (k2 : Int) (nm2 tx2 : ByteArray) (n2 m2 : Int) (yk : Int) (yt : ByteArray) (yn : Int) (rb : Nat) (w : World) (hne : (yk == k2) = false) (HROW : Hid (w.heap[rb]? = some (.cells #[.int .u8 k1, .string nm1, .string tx1, .int .i64 n1, .int .i64 m1, .int .u8 k2, .string nm2, .string tx2, .int .i64 n2, .int .i64 m2] 23 (0, 0)))) (H1 : Hid (DoesU w 16 #[.agg #[.func (.func g) #[] cap, c, a, .bool l], .agg #[.int .u8 k1, .string nm1, .string tx1, .int .i64 n1, .int .i64 m1]] (.tuple #[.agg #[.int .u8 k1, .string nm1, .string tx1, .int .i64 n1, .int .i64 m1], .bool true]))) (H2 : Hid (DoesU w 16 #[.agg #[.func (.func g) #[] cap, c, a, .bool l], .agg #[.int .u8 k2, .string nm2, .string tx2, .int .i64 n2, .int .i64 m2]] (.tuple #[.agg #[.int .u8 yk, .string ⟨#[]⟩, .string yt, .int .i64 yn, .int .i64 0], .bool true]))) :
    Calls Tryz.prog 17 #[.agg #[.func (.func g) #[] cap, c, a, .bool l], .bool true, .slice (some ⟨rb, 0, none⟩) 2 2] w fun e w' => e = .returned (.int .i64 160) ∧ Below w.heap.size w w' := by
  have hlt : rb < w.heap.size := heap_lt HROW.out
  have q0 : w.cell? ⟨rb, 0, none⟩ = some (.int .u8 k1) := (Lib.cell_of_heap HROW.out 0).trans rfl
  have q1 : w.cell? ⟨rb, 1, none⟩ = some (.string nm1) := (Lib.cell_of_heap HROW.out 1).trans rfl
  have q2 : w.cell? ⟨rb, 2, none⟩ = some (.string tx1) := (Lib.cell_of_heap HROW.out 2).trans rfl
  have q3 : w.cell? ⟨rb, 3, none⟩ = some (.int .i64 n1) := (Lib.cell_of_heap HROW.out 3).trans rfl
  have q4 : w.cell? ⟨rb, 4, none⟩ = some (.int .i64 m1) := (Lib.cell_of_heap HROW.out 4).trans rfl
  have q5 : w.cell? ⟨rb, 5, none⟩ = some (.int .u8 k2) := (Lib.cell_of_heap HROW.out 5).trans rfl
  have q6 : w.cell? ⟨rb, 6, none⟩ = some (.string nm2) := (Lib.cell_of_heap HROW.out 6).trans rfl
  have q7 : w.cell? ⟨rb, 7, none⟩ = some (.string tx2) := (Lib.cell_of_heap HROW.out 7).trans rfl
  have q8 : w.cell? ⟨rb, 8, none⟩ = some (.int .i64 n2) := (Lib.cell_of_heap HROW.out 8).trans rfl
  have q9 : w.cell? ⟨rb, 9, none⟩ = some (.int .i64 m2) := (Lib.cell_of_heap HROW.out 9).trans rfl
  go_enter Tryz.func17, Tryz.ntmps17
  go_wp2_with fail
  refine wp_loop_rounds 3 ?_
  rw [rounds_succ]
  go_wp2_with fail
  refine (H1.out _ (by first | exact Below.refl _ _ | (go_grown; done))).mono ?_; rintro e w1 ⟨rfl, hb⟩
  have hh0 : w1.heap[w.heap.size]? = some (.cells #[.func (.func g) #[] cap, c, a, .bool l] 41 (0, 0)) := (hb.block _ (by first | omega | (simp; done) | (simp; omega))).trans (heap_old (o' := (.cells #[.int .u8 k1, .string nm1, .string tx1, .int .i64 n1, .int .i64 m1] 23 (0, 0))) (heap_new _ _ _ (by first | rfl | simp)))
  have hh1 : w1.heap[w.heap.size + 1]? = some (.cells #[.int .u8 k1, .string nm1, .string tx1, .int .i64 n1, .int .i64 m1] 23 (0, 0)) := (hb.block _ (by first | omega | (simp; done) | (simp; omega))).trans (heap_new _ _ _ (by first | rfl | simp))
  have hbw1 : Below w.heap.size w w1 := (show Below w.heap.size w _ by first | exact Below.refl _ _ | (go_grown; done)).trans (hb.mono (by first | omega | (simp; done) | (simp; omega)))
  clear hb
  have HH0_1 := Lib.hid hh0
  have lt0 := heap_lt hh0
  have c0_0 : w1.cell? ⟨w.heap.size, 0, none⟩ = some (.func (.func g) #[] cap) := by rw [Lib.cell_of_heap hh0]; rfl
  have c0_1 : w1.cell? ⟨w.heap.size, 1, none⟩ = some (c) := by rw [Lib.cell_of_heap hh0]; rfl
  have c0_2 : w1.cell? ⟨w.heap.size, 2, none⟩ = some (a) := by rw [Lib.cell_of_heap hh0]; rfl
  have c0_3 : w1.cell? ⟨w.heap.size, 3, none⟩ = some (.bool l) := by rw [Lib.cell_of_heap hh0]; rfl
  clear hh0
  have HH1_1 := Lib.hid hh1
  have lt1 := heap_lt hh1
  have c1_0 : w1.cell? ⟨w.heap.size + 1, 0, none⟩ = some (.int .u8 k1) := by rw [Lib.cell_of_heap hh1]; rfl
  have c1_1 : w1.cell? ⟨w.heap.size + 1, 1, none⟩ = some (.string nm1) := by rw [Lib.cell_of_heap hh1]; rfl
  have c1_2 : w1.cell? ⟨w.heap.size + 1, 2, none⟩ = some (.string tx1) := by rw [Lib.cell_of_heap hh1]; rfl
  have c1_3 : w1.cell? ⟨w.heap.size + 1, 3, none⟩ = some (.int .i64 n1) := by rw [Lib.cell_of_heap hh1]; rfl
  have c1_4 : w1.cell? ⟨w.heap.size + 1, 4, none⟩ = some (.int .i64 m1) := by rw [Lib.cell_of_heap hh1]; rfl
  clear hh1
  have sz1 := hbw1.size
  have HW1 := Lib.hid hbw1
  clear q0 q1 q2 q3 q4 q5 q6 q7 q8 q9
  have hl1 : rb < w1.heap.size := Nat.lt_of_lt_of_le hlt HW1.out.size
  have q0 : w1.cell? ⟨rb, 0, none⟩ = some (.int .u8 k1) := (HW1.out.cell (p := ⟨rb, 0, none⟩) hlt).trans ((Lib.cell_of_heap HROW.out 0).trans rfl)
  have q1 : w1.cell? ⟨rb, 1, none⟩ = some (.string nm1) := (HW1.out.cell (p := ⟨rb, 1, none⟩) hlt).trans ((Lib.cell_of_heap HROW.out 1).trans rfl)
  have q2 : w1.cell? ⟨rb, 2, none⟩ = some (.string tx1) := (HW1.out.cell (p := ⟨rb, 2, none⟩) hlt).trans ((Lib.cell_of_heap HROW.out 2).trans rfl)
  have q3 : w1.cell? ⟨rb, 3, none⟩ = some (.int .i64 n1) := (HW1.out.cell (p := ⟨rb, 3, none⟩) hlt).trans ((Lib.cell_of_heap HROW.out 3).trans rfl)
  have q4 : w1.cell? ⟨rb, 4, none⟩ = some (.int .i64 m1) := (HW1.out.cell (p := ⟨rb, 4, none⟩) hlt).trans ((Lib.cell_of_heap HROW.out 4).trans rfl)
  have q5 : w1.cell? ⟨rb, 5, none⟩ = some (.int .u8 k2) := (HW1.out.cell (p := ⟨rb, 5, none⟩) hlt).trans ((Lib.cell_of_heap HROW.out 5).trans rfl)
  have q6 : w1.cell? ⟨rb, 6, none⟩ = some (.string nm2) := (HW1.out.cell (p := ⟨rb, 6, none⟩) hlt).trans ((Lib.cell_of_heap HROW.out 6).trans rfl)
  have q7 : w1.cell? ⟨rb, 7, none⟩ = some (.string tx2) := (HW1.out.cell (p := ⟨rb, 7, none⟩) hlt).trans ((Lib.cell_of_heap HROW.out 7).trans rfl)
  have q8 : w1.cell? ⟨rb, 8, none⟩ = some (.int .i64 n2) := (HW1.out.cell (p := ⟨rb, 8, none⟩) hlt).trans ((Lib.cell_of_heap HROW.out 8).trans rfl)
  have q9 : w1.cell? ⟨rb, 9, none⟩ = some (.int .i64 m2) := (HW1.out.cell (p := ⟨rb, 9, none⟩) hlt).trans ((Lib.cell_of_heap HROW.out 9).trans rfl)
  go_wp2_with fail
  rw [rounds_succ]
  go_wp2_with fail
  refine (H2.out _ (by first | exact HW1.out | exact HW1.out.trans ⟨rfl, rfl, rfl, Nat.le_refl _, fun _ _ => rfl⟩ | (go_grown; done))).mono ?_; rintro e w2 ⟨rfl, hb⟩
  have hv0 := heap_old (o' := (.cells #[.int .u8 k2, .string nm2, .string tx2, .int .i64 n2, .int .i64 m2] 23 (0, 0))) (heap_old (o' := (.cells #[.int .u8 k1, .string nm1, .string tx1, .int .i64 n1, .int .i64 m1] 23 (0, 0))) (HH0_1.out))
  have hh0 : w2.heap[w.heap.size]? = some (.cells #[.func (.func g) #[] cap, c, a, .bool l] 41 (0, 0)) := (hb.block _ (heap_lt hv0)).trans hv0
  clear hv0
  have hv1 := heap_old (o' := (.cells #[.int .u8 k2, .string nm2, .string tx2, .int .i64 n2, .int .i64 m2] 23 (0, 0))) (heap_old (o' := (.cells #[.int .u8 k1, .string nm1, .string tx1, .int .i64 n1, .int .i64 m1] 23 (0, 0))) (HH1_1.out))
  have hh1 : w2.heap[w.heap.size + 1]? = some (.cells #[.int .u8 k1, .string nm1, .string tx1, .int .i64 n1, .int .i64 m1] 23 (0, 0)) := (hb.block _ (heap_lt hv1)).trans hv1
  clear hv1
  have hh2 : w2.heap[w1.heap.size]? = some (.cells #[.int .u8 k1, .string nm1, .string tx1, .int .i64 n1, .int .i64 m1] 23 (0, 0)) := (hb.block _ (by first | omega | (simp; done) | (simp; omega))).trans (heap_old (o' := (.cells #[.int .u8 k2, .string nm2, .string tx2, .int .i64 n2, .int .i64 m2] 23 (0, 0))) (heap_new _ _ _ (by first | rfl | simp)))
  have hh3 : w2.heap[w1.heap.size + 1]? = some (.cells #[.int .u8 k2, .string nm2, .string tx2, .int .i64 n2, .int .i64 m2] 23 (0, 0)) := (hb.block _ (by first | omega | (simp; done) | (simp; omega))).trans (heap_new _ _ _ (by first | rfl | simp))
  have hbw2 : Below w.heap.size w w2 := (show Below w.heap.size w _ by first | exact HW1.out.trans ⟨rfl, rfl, rfl, Nat.le_refl _, fun _ _ => rfl⟩ | exact HW1.out | (go_grown; done)).trans (hb.mono (by first | omega | (simp; done) | (simp; omega)))
  clear hb lt0 c0_0 c0_1 c0_2 c0_3 lt1 c1_0 c1_1 c1_2 c1_3 c1_4 hbw1
  have HH0_2 := Lib.hid hh0
  have lt0 := heap_lt hh0
  have c0_0 : w2.cell? ⟨w.heap.size, 0, none⟩ = some (.func (.func g) #[] cap) := by rw [Lib.cell_of_heap hh0]; rfl
  have c0_1 : w2.cell? ⟨w.heap.size, 1, none⟩ = some (c) := by rw [Lib.cell_of_heap hh0]; rfl
  have c0_2 : w2.cell? ⟨w.heap.size, 2, none⟩ = some (a) := by rw [Lib.cell_of_heap hh0]; rfl
  have c0_3 : w2.cell? ⟨w.heap.size, 3, none⟩ = some (.bool l) := by rw [Lib.cell_of_heap hh0]; rfl
  clear hh0
  have HH1_2 := Lib.hid hh1
  have lt1 := heap_lt hh1
  have c1_0 : w2.cell? ⟨w.heap.size + 1, 0, none⟩ = some (.int .u8 k1) := by rw [Lib.cell_of_heap hh1]; rfl
  have c1_1 : w2.cell? ⟨w.heap.size + 1, 1, none⟩ = some (.string nm1) := by rw [Lib.cell_of_heap hh1]; rfl
  have c1_2 : w2.cell? ⟨w.heap.size + 1, 2, none⟩ = some (.string tx1) := by rw [Lib.cell_of_heap hh1]; rfl
  have c1_3 : w2.cell? ⟨w.heap.size + 1, 3, none⟩ = some (.int .i64 n1) := by rw [Lib.cell_of_heap hh1]; rfl
  have c1_4 : w2.cell? ⟨w.heap.size + 1, 4, none⟩ = some (.int .i64 m1) := by rw [Lib.cell_of_heap hh1]; rfl
  clear hh1
  have HH2_2 := Lib.hid hh2
  have lt2 := heap_lt hh2
  have c2_0 : w2.cell? ⟨w1.heap.size, 0, none⟩ = some (.int .u8 k1) := by rw [Lib.cell_of_heap hh2]; rfl
  have c2_1 : w2.cell? ⟨w1.heap.size, 1, none⟩ = some (.string nm1) := by rw [Lib.cell_of_heap hh2]; rfl
  have c2_2 : w2.cell? ⟨w1.heap.size, 2, none⟩ = some (.string tx1) := by rw [Lib.cell_of_heap hh2]; rfl
  have c2_3 : w2.cell? ⟨w1.heap.size, 3, none⟩ = some (.int .i64 n1) := by rw [Lib.cell_of_heap hh2]; rfl
  have c2_4 : w2.cell? ⟨w1.heap.size, 4, none⟩ = some (.int .i64 m1) := by rw [Lib.cell_of_heap hh2]; rfl
  clear hh2
  have HH3_2 := Lib.hid hh3
  have lt3 := heap_lt hh3
  have c3_0 : w2.cell? ⟨w1.heap.size + 1, 0, none⟩ = some (.int .u8 k2) := by rw [Lib.cell_of_heap hh3]; rfl
  have c3_1 : w2.cell? ⟨w1.heap.size + 1, 1, none⟩ = some (.string nm2) := by rw [Lib.cell_of_heap hh3]; rfl
  have c3_2 : w2.cell? ⟨w1.heap.size + 1, 2, none⟩ = some (.string tx2) := by rw [Lib.cell_of_heap hh3]; rfl
  have c3_3 : w2.cell? ⟨w1.heap.size + 1, 3, none⟩ = some (.int .i64 n2) := by rw [Lib.cell_of_heap hh3]; rfl
  have c3_4 : w2.cell? ⟨w1.heap.size + 1, 4, none⟩ = some (.int .i64 m2) := by rw [Lib.cell_of_heap hh3]; rfl
  clear hh3
  have sz2 := hbw2.size
  have HW2 := Lib.hid hbw2
  clear q0 q1 q2 q3 q4 q5 q6 q7 q8 q9
  have hl2 : rb < w2.heap.size := Nat.lt_of_lt_of_le hlt HW2.out.size
  have q0 : w2.cell? ⟨rb, 0, none⟩ = some (.int .u8 k1) := (HW2.out.cell (p := ⟨rb, 0, none⟩) hlt).trans ((Lib.cell_of_heap HROW.out 0).trans rfl)
  have q1 : w2.cell? ⟨rb, 1, none⟩ = some (.string nm1) := (HW2.out.cell (p := ⟨rb, 1, none⟩) hlt).trans ((Lib.cell_of_heap HROW.out 1).trans rfl)
  have q2 : w2.cell? ⟨rb, 2, none⟩ = some (.string tx1) := (HW2.out.cell (p := ⟨rb, 2, none⟩) hlt).trans ((Lib.cell_of_heap HROW.out 2).trans rfl)
  have q3 : w2.cell? ⟨rb, 3, none⟩ = some (.int .i64 n1) := (HW2.out.cell (p := ⟨rb, 3, none⟩) hlt).trans ((Lib.cell_of_heap HROW.out 3).trans rfl)
  have q4 : w2.cell? ⟨rb, 4, none⟩ = some (.int .i64 m1) := (HW2.out.cell (p := ⟨rb, 4, none⟩) hlt).trans ((Lib.cell_of_heap HROW.out 4).trans rfl)
  have q5 : w2.cell? ⟨rb, 5, none⟩ = some (.int .u8 k2) := (HW2.out.cell (p := ⟨rb, 5, none⟩) hlt).trans ((Lib.cell_of_heap HROW.out 5).trans rfl)
  have q6 : w2.cell? ⟨rb, 6, none⟩ = some (.string nm2) := (HW2.out.cell (p := ⟨rb, 6, none⟩) hlt).trans ((Lib.cell_of_heap HROW.out 6).trans rfl)
  have q7 : w2.cell? ⟨rb, 7, none⟩ = some (.string tx2) := (HW2.out.cell (p := ⟨rb, 7, none⟩) hlt).trans ((Lib.cell_of_heap HROW.out 7).trans rfl)
  have q8 : w2.cell? ⟨rb, 8, none⟩ = some (.int .i64 n2) := (HW2.out.cell (p := ⟨rb, 8, none⟩) hlt).trans ((Lib.cell_of_heap HROW.out 8).trans rfl)
  have q9 : w2.cell? ⟨rb, 9, none⟩ = some (.int .i64 m2) := (HW2.out.cell (p := ⟨rb, 9, none⟩) hlt).trans ((Lib.cell_of_heap HROW.out 9).trans rfl)
  go_wp2_with fail
  go_ret
  exact ⟨rfl, by first | exact HW2.out | (go_grown; done)⟩
set_option maxRecDepth 100000 in
set_option maxHeartbeats 4000000 in
theorem asked_2_bad2_1 (g : Nat) (cap : Array Value) (c a : Value) (l : Bool) (k1 : Int) (nm1 tx1 : ByteArray) (n1 m1 : Int) (k2 : Int) (nm2 tx2 : ByteArray) (n2 m2 : Int) (yt : ByteArray) (yn : Int) (rb : Nat) (w : World) (hne : ([] == nm2.toList) = false) (hne2 : ¬ nm2.toList = []) (hne3 : ¬ [] = nm2.toList) (HROW : Hid (w.heap[rb]? = some (.cells #[.int .u8 k1, .string nm1, .string tx1, .int .i64 n1, .int .i64 m1, .int .u8 k2, .string nm2, .string tx2, .int .i64 n2, .int .i64 m2] 23 (0, 0)))) (H1 : Hid (DoesU w 16 #[.agg #[.func (.func g) #[] cap, c, a, .bool l], .agg #[.int .u8 k1, .string nm1, .string tx1, .int .i64 n1, .int .i64 m1]] (.tuple #[.agg #[.int .u8 k1, .string nm1, .string tx1, .int .i64 n1, .int .i64 m1], .bool true]))) (H2 : Hid (DoesU w 16 #[.agg #[.func (.func g) #[] cap, c, a, .bool l], .agg #[.int .u8 k2, .string nm2, .string tx2, .int .i64 n2, .int .i64 m2]] (.tuple #[.agg #[.int .u8 k2, .string ⟨#[]⟩, .string yt, .int .i64 yn, .int .i64 0], .bool true]))) :
    Calls Tryz.prog 17 #[.agg #[.func (.func g) #[] cap, c, a, .bool l], .bool true, .slice (some ⟨rb, 0, none⟩) 2 2] w fun e w' => e = .returned (.int .i64 160) ∧ Below w.heap.size w w' := by
  have hlt : rb < w.heap.size := heap_lt HROW.out
  have q0 : w.cell? ⟨rb, 0, none⟩ = some (.int .u8 k1) := (Lib.cell_of_heap HROW.out 0).trans rfl
  have q1 : w.cell? ⟨rb, 1, none⟩ = some (.string nm1) := (Lib.cell_of_heap HROW.out 1).trans rfl
  have q2 : w.cell? ⟨rb, 2, none⟩ = some (.string tx1) := (Lib.cell_of_heap HROW.out 2).trans rfl
  have q3 : w.cell? ⟨rb, 3, none⟩ = some (.int .i64 n1) := (Lib.cell_of_heap HROW.out 3).trans rfl
  have q4 : w.cell? ⟨rb, 4, none⟩ = some (.int .i64 m1) := (Lib.cell_of_heap HROW.out 4).trans rfl
  have q5 : w.cell? ⟨rb, 5, none⟩ = some (.int .u8 k2) := (Lib.cell_of_heap HROW.out 5).trans rfl
  have q6 : w.cell? ⟨rb, 6, none⟩ = some (.string nm2) := (Lib.cell_of_heap HROW.out 6).trans rfl
  have q7 : w.cell? ⟨rb, 7, none⟩ = some (.string tx2) := (Lib.cell_of_heap HROW.out 7).trans rfl
  have q8 : w.cell? ⟨rb, 8, none⟩ = some (.int .i64 n2) := (Lib.cell_of_heap HROW.out 8).trans rfl
  have q9 : w.cell? ⟨rb, 9, none⟩ = some (.int .i64 m2) := (Lib.cell_of_heap HROW.out 9).trans rfl
  go_enter Tryz.func17, Tryz.ntmps17
  go_wp2_with fail
  refine wp_loop_rounds 3 ?_
  rw [rounds_succ]
  go_wp2_with fail
  refine (H1.out _ (by first | exact Below.refl _ _ | (go_grown; done))).mono ?_; rintro e w1 ⟨rfl, hb⟩
  have hh0 : w1.heap[w.heap.size]? = some (.cells #[.func (.func g) #[] cap, c, a, .bool l] 41 (0, 0)) := (hb.block _ (by first | omega | (simp; done) | (simp; omega))).trans (heap_old (o' := (.cells #[.int .u8 k1, .string nm1, .string tx1, .int .i64 n1, .int .i64 m1] 23 (0, 0))) (heap_new _ _ _ (by first | rfl | simp)))
  have hh1 : w1.heap[w.heap.size + 1]? = some (.cells #[.int .u8 k1, .string nm1, .string tx1, .int .i64 n1, .int .i64 m1] 23 (0, 0)) := (hb.block _ (by first | omega | (simp; done) | (simp; omega))).trans (heap_new _ _ _ (by first | rfl | simp))
  have hbw1 : Below w.heap.size w w1 := (show Below w.heap.size w _ by first | exact Below.refl _ _ | (go_grown; done)).trans (hb.mono (by first | omega | (simp; done) | (simp; omega)))
  clear hb
  have HH0_1 := Lib.hid hh0
  have lt0 := heap_lt hh0
  have c0_0 : w1.cell? ⟨w.heap.size, 0, none⟩ = some (.func (.func g) #[] cap) := by rw [Lib.cell_of_heap hh0]; rfl
  have c0_1 : w1.cell? ⟨w.heap.size, 1, none⟩ = some (c) := by rw [Lib.cell_of_heap hh0]; rfl
  have c0_2 : w1.cell? ⟨w.heap.size, 2, none⟩ = some (a) := by rw [Lib.cell_of_heap hh0]; rfl
  have c0_3 : w1.cell? ⟨w.heap.size, 3, none⟩ = some (.bool l) := by rw [Lib.cell_of_heap hh0]; rfl
  clear hh0
  have HH1_1 := Lib.hid hh1
  have lt1 := heap_lt hh1
  have c1_0 : w1.cell? ⟨w.heap.size + 1, 0, none⟩ = some (.int .u8 k1) := by rw [Lib.cell_of_heap hh1]; rfl
  have c1_1 : w1.cell? ⟨w.heap.size + 1, 1, none⟩ = some (.string nm1) := by rw [Lib.cell_of_heap hh1]; rfl
  have c1_2 : w1.cell? ⟨w.heap.size + 1, 2, none⟩ = some (.string tx1) := by rw [Lib.cell_of_heap hh1]; rfl
  have c1_3 : w1.cell? ⟨w.heap.size + 1, 3, none⟩ = some (.int .i64 n1) := by rw [Lib.cell_of_heap hh1]; rfl
  have c1_4 : w1.cell? ⟨w.heap.size + 1, 4, none⟩ = some (.int .i64 m1) := by rw [Lib.cell_of_heap hh1]; rfl
  clear hh1
  have sz1 := hbw1.size
  have HW1 := Lib.hid hbw1
  clear q0 q1 q2 q3 q4 q5 q6 q7 q8 q9
  have hl1 : rb < w1.heap.size := Nat.lt_of_lt_of_le hlt HW1.out.size
  have q0 : w1.cell? ⟨rb, 0, none⟩ = some (.int .u8 k1) := (HW1.out.cell (p := ⟨rb, 0, none⟩) hlt).trans ((Lib.cell_of_heap HROW.out 0).trans rfl)
  have q1 : w1.cell? ⟨rb, 1, none⟩ = some (.string nm1) := (HW1.out.cell (p := ⟨rb, 1, none⟩) hlt).trans ((Lib.cell_of_heap HROW.out 1).trans rfl)
  have q2 : w1.cell? ⟨rb, 2, none⟩ = some (.string tx1) := (HW1.out.cell (p := ⟨rb, 2, none⟩) hlt).trans ((Lib.cell_of_heap HROW.out 2).trans rfl)
  have q3 : w1.cell? ⟨rb, 3, none⟩ = some (.int .i64 n1) := (HW1.out.cell (p := ⟨rb, 3, none⟩) hlt).trans ((Lib.cell_of_heap HROW.out 3).trans rfl)
  have q4 : w1.cell? ⟨rb, 4, none⟩ = some (.int .i64 m1) := (HW1.out.cell (p := ⟨rb, 4, none⟩) hlt).trans ((Lib.cell_of_heap HROW.out 4).trans rfl)
  have q5 : w1.cell? ⟨rb, 5, none⟩ = some (.int .u8 k2) := (HW1.out.cell (p := ⟨rb, 5, none⟩) hlt).trans ((Lib.cell_of_heap HROW.out 5).trans rfl)
  have q6 : w1.cell? ⟨rb, 6, none⟩ = some (.string nm2) := (HW1.out.cell (p := ⟨rb, 6, none⟩) hlt).trans ((Lib.cell_of_heap HROW.out 6).trans rfl)
  have q7 : w1.cell? ⟨rb, 7, none⟩ = some (.string tx2) := (HW1.out.cell (p := ⟨rb, 7, none⟩) hlt).trans ((Lib.cell_of_heap HROW.out 7).trans rfl)
  have q8 : w1.cell? ⟨rb, 8, none⟩ = some (.int .i64 n2) := (HW1.out.cell (p := ⟨rb, 8, none⟩) hlt).trans ((Lib.cell_of_heap HROW.out 8).trans rfl)
  have q9 : w1.cell? ⟨rb, 9, none⟩ = some (.int .i64 m2) := (HW1.out.cell (p := ⟨rb, 9, none⟩) hlt).trans ((Lib.cell_of_heap HROW.out 9).trans rfl)
  go_wp2_with fail
  rw [rounds_succ]
  go_wp2_with fail
  refine (H2.out _ (by first | exact HW1.out | exact HW1.out.trans ⟨rfl, rfl, rfl, Nat.le_refl _, fun _ _ => rfl⟩ | (go_grown; done))).mono ?_; rintro e w2 ⟨rfl, hb⟩
  have hv0 := heap_old (o' := (.cells #[.int .u8 k2, .string nm2, .string tx2, .int .i64 n2, .int .i64 m2] 23 (0, 0))) (heap_old (o' := (.cells #[.int .u8 k1, .string nm1, .string tx1, .int .i64 n1, .int .i64 m1] 23 (0, 0))) (HH0_1.out))
  have hh0 : w2.heap[w.heap.size]? = some (.cells #[.func (.func g) #[] cap, c, a, .bool l] 41 (0, 0)) := (hb.block _ (heap_lt hv0)).trans hv0
  clear hv0
  have hv1 := heap_old (o' := (.cells #[.int .u8 k2, .string nm2, .string tx2, .int .i64 n2, .int .i64 m2] 23 (0, 0))) (heap_old (o' := (.cells #[.int .u8 k1, .string nm1, .string tx1, .int .i64 n1, .int .i64 m1] 23 (0, 0))) (HH1_1.out))
  have hh1 : w2.heap[w.heap.size + 1]? = some (.cells #[.int .u8 k1, .string nm1, .string tx1, .int .i64 n1, .int .i64 m1] 23 (0, 0)) := (hb.block _ (heap_lt hv1)).trans hv1
  clear hv1
  have hh2 : w2.heap[w1.heap.size]? = some (.cells #[.int .u8 k1, .string nm1, .string tx1, .int .i64 n1, .int .i64 m1] 23 (0, 0)) := (hb.block _ (by first | omega | (simp; done) | (simp; omega))).trans (heap_old (o' := (.cells #[.int .u8 k2, .string nm2, .string tx2, .int .i64 n2, .int .i64 m2] 23 (0, 0))) (heap_new _ _ _ (by first | rfl | simp)))
  have hh3 : w2.heap[w1.heap.size + 1]? = some (.cells #[.int .u8 k2, .string nm2, .string tx2, .int .i64 n2, .int .i64 m2] 23 (0, 0)) := (hb.block _ (by first | omega | (simp; done) | (simp; omega))).trans (heap_new _ _ _ (by first | rfl | simp))
  have hbw2 : Below w.heap.size w w2 := (show Below w.heap.size w _ by first | exact HW1.out.trans ⟨rfl, rfl, rfl, Nat.le_refl _, fun _ _ => rfl⟩ | exact HW1.out | (go_grown; done)).trans (hb.mono (by first | omega | (simp; done) | (simp; omega)))
  clear hb lt0 c0_0 c0_1 c0_2 c0_3 lt1 c1_0 c1_1 c1_2 c1_3 c1_4 hbw1
  have HH0_2 := Lib.hid hh0
  have lt0 := heap_lt hh0
  have c0_0 : w2.cell? ⟨w.heap.size, 0, none⟩ = some (.func (.func g) #[] cap) := by rw [Lib.cell_of_heap hh0]; rfl
  have c0_1 : w2.cell? ⟨w.heap.size, 1, none⟩ = some (c) := by rw [Lib.cell_of_heap hh0]; rfl
  have c0_2 : w2.cell? ⟨w.heap.size, 2, none⟩ = some (a) := by rw [Lib.cell_of_heap hh0]; rfl
  have c0_3 : w2.cell? ⟨w.heap.size, 3, none⟩ = some (.bool l) := by rw [Lib.cell_of_heap hh0]; rfl
  clear hh0
  have HH1_2 := Lib.hid hh1
  have lt1 := heap_lt hh1
  have c1_0 : w2.cell? ⟨w.heap.size + 1, 0, none⟩ = some (.int .u8 k1) := by rw [Lib.cell_of_heap hh1]; rfl
  have c1_1 : w2.cell? ⟨w.heap.size + 1, 1, none⟩ = some (.string nm1) := by rw [Lib.cell_of_heap hh1]; rfl
  have c1_2 : w2.cell? ⟨w.heap.size + 1, 2, none⟩ = some (.string tx1) := by rw [Lib.cell_of_heap hh1]; rfl
  have c1_3 : w2.cell? ⟨w.heap.size + 1, 3, none⟩ = some (.int .i64 n1) := by rw [Lib.cell_of_heap hh1]; rfl
  have c1_4 : w2.cell? ⟨w.heap.size + 1, 4, none⟩ = some (.int .i64 m1) := by rw [Lib.cell_of_heap hh1]; rfl
  clear hh1
  have HH2_2 := Lib.hid hh2
  have lt2 := heap_lt hh2
  have c2_0 : w2.cell? ⟨w1.heap.size, 0, none⟩ = some (.int .u8 k1) := by rw [Lib.cell_of_heap hh2]; rfl
  have c2_1 : w2.cell? ⟨w1.heap.size, 1, none⟩ = some (.string nm1) := by rw [Lib.cell_of_heap hh2]; rfl
  have c2_2 : w2.cell? ⟨w1.heap.size, 2, none⟩ = some (.string tx1) := by rw [Lib.cell_of_heap hh2]; rfl
  have c2_3 : w2.cell? ⟨w1.heap.size, 3, none⟩ = some (.int .i64 n1) := by rw [Lib.cell_of_heap hh2]; rfl
  have c2_4 : w2.cell? ⟨w1.heap.size, 4, none⟩ = some (.int .i64 m1) := by rw [Lib.cell_of_heap hh2]; rfl
  clear hh2
  have HH3_2 := Lib.hid hh3
  have lt3 := heap_lt hh3
  have c3_0 : w2.cell? ⟨w1.heap.size + 1, 0, none⟩ = some (.int .u8 k2) := by rw [Lib.cell_of_heap hh3]; rfl
  have c3_1 : w2.cell? ⟨w1.heap.size + 1, 1, none⟩ = some (.string nm2) := by rw [Lib.cell_of_heap hh3]; rfl
  have c3_2 : w2.cell? ⟨w1.heap.size + 1, 2, none⟩ = some (.string tx2) := by rw [Lib.cell_of_heap hh3]; rfl
  have c3_3 : w2.cell? ⟨w1.heap.size + 1, 3, none⟩ = some (.int .i64 n2) := by rw [Lib.cell_of_heap hh3]; rfl
  have c3_4 : w2.cell? ⟨w1.heap.size + 1, 4, none⟩ = some (.int .i64 m2) := by rw [Lib.cell_of_heap hh3]; rfl
  clear hh3
  have sz2 := hbw2.size
  have HW2 := Lib.hid hbw2
  clear q0 q1 q2 q3 q4 q5 q6 q7 q8 q9
  have hl2 : rb < w2.heap.size := Nat.lt_of_lt_of_le hlt HW2.out.size
  have q0 : w2.cell? ⟨rb, 0, none⟩ = some (.int .u8 k1) := (HW2.out.cell (p := ⟨rb, 0, none⟩) hlt).trans ((Lib.cell_of_heap HROW.out 0).trans rfl)
  have q1 : w2.cell? ⟨rb, 1, none⟩ = some (.string nm1) := (HW2.out.cell (p := ⟨rb, 1, none⟩) hlt).trans ((Lib.cell_of_heap HROW.out 1).trans rfl)
  have q2 : w2.cell? ⟨rb, 2, none⟩ = some (.string tx1) := (HW2.out.cell (p := ⟨rb, 2, none⟩) hlt).trans ((Lib.cell_of_heap HROW.out 2).trans rfl)
  have q3 : w2.cell? ⟨rb, 3, none⟩ = some (.int .i64 n1) := (HW2.out.cell (p := ⟨rb, 3, none⟩) hlt).trans ((Lib.cell_of_heap HROW.out 3).trans rfl)
  have q4 : w2.cell? ⟨rb, 4, none⟩ = some (.int .i64 m1) := (HW2.out.cell (p := ⟨rb, 4, none⟩) hlt).trans ((Lib.cell_of_heap HROW.out 4).trans rfl)
  have q5 : w2.cell? ⟨rb, 5, none⟩ = some (.int .u8 k2) := (HW2.out.cell (p := ⟨rb, 5, none⟩) hlt).trans ((Lib.cell_of_heap HROW.out 5).trans rfl)
  have q6 : w2.cell? ⟨rb, 6, none⟩ = some (.string nm2) := (HW2.out.cell (p := ⟨rb, 6, none⟩) hlt).trans ((Lib.cell_of_heap HROW.out 6).trans rfl)
  have q7 : w2.cell? ⟨rb, 7, none⟩ = some (.string tx2) := (HW2.out.cell (p := ⟨rb, 7, none⟩) hlt).trans ((Lib.cell_of_heap HROW.out 7).trans rfl)
  have q8 : w2.cell? ⟨rb, 8, none⟩ = some (.int .i64 n2) := (HW2.out.cell (p := ⟨rb, 8, none⟩) hlt).trans ((Lib.cell_of_heap HROW.out 8).trans rfl)
  have q9 : w2.cell? ⟨rb, 9, none⟩ = some (.int .i64 m2) := (HW2.out.cell (p := ⟨rb, 9, none⟩) hlt).trans ((Lib.cell_of_heap HROW.out 9).trans rfl)
  go_wp2_with fail
  go_ret
  exact ⟨rfl, by first | exact HW2.out | (go_grown; done)⟩
set_option maxRecDepth 100000 in
set_option maxHeartbeats 4000000 in
theorem asked_2_bad2_2 (g : Nat) (cap : Array Value) (c a : Value) (l : Bool) (k1 : Int) (nm1 tx1 : ByteArray) (n1 m1 : Int) (k2 : Int) (tx2 : ByteArray) (n2 m2 : Int) (yt : ByteArray) (yn : Int) (rb : Nat) (w : World) (hne : (yt.toList == tx2.toList) = false) (HROW : Hid (w.heap[rb]? = some (.cells #[.int .u8 k1, .string nm1, .string tx1, .int .i64 n1, .int .i64 m1, .int .u8 k2, .string ⟨#[]⟩, .string tx2, .int .i64 n2, .int .i64 m2] 23 (0, 0)))) (H1 : Hid (DoesU w 16 #[.agg #[.func (.func g) #[] cap, c, a, .bool l], .agg #[.int .u8 k1, .string nm1, .string tx1, .int .i64 n1, .int .i64 m1]] (.tuple #[.agg #[.int .u8 k1, .string nm1, .string tx1, .int .i64 n1, .int .i64 m1], .bool true]))) (H2 : Hid (DoesU w 16 #[.agg #[.func (.func g) #[] cap, c, a, .bool l], .agg #[.int .u8 k2, .string ⟨#[]⟩, .string tx2, .int .i64 n2, .int .i64 m2]] (.tuple #[.agg #[.int .u8 k2, .string ⟨#[]⟩, .string yt, .int .i64 yn, .int .i64 0], .bool true]))) :
    Calls Tryz.prog 17 #[.agg #[.func (.func g) #[] cap, c, a, .bool l], .bool true, .slice (some ⟨rb, 0, none⟩) 2 2] w fun e w' => e = .returned (.int .i64 160) ∧ Below w.heap.size w w' := by
  have hlt : rb < w.heap.size := heap_lt HROW.out
  have q0 : w.cell? ⟨rb, 0, none⟩ = some (.int .u8 k1) := (Lib.cell_of_heap HROW.out 0).trans rfl
  have q1 : w.cell? ⟨rb, 1, none⟩ = some (.string nm1) := (Lib.cell_of_heap HROW.out 1).trans rfl
  have q2 : w.cell? ⟨rb, 2, none⟩ = some (.string tx1) := (Lib.cell_of_heap HROW.out 2).trans rfl
  have q3 : w.cell? ⟨rb, 3, none⟩ = some (.int .i64 n1) := (Lib.cell_of_heap HROW.out 3).trans rfl
  have q4 : w.cell? ⟨rb, 4, none⟩ = some (.int .i64 m1) := (Lib.cell_of_heap HROW.out 4).trans rfl
  have q5 : w.cell? ⟨rb, 5, none⟩ = some (.int .u8 k2) := (Lib.cell_of_heap HROW.out 5).trans rfl
  have q6 : w.cell? ⟨rb, 6, none⟩ = some (.string ⟨#[]⟩) := (Lib.cell_of_heap HROW.out 6).trans rfl
  have q7 : w.cell? ⟨rb, 7, none⟩ = some (.string tx2) := (Lib.cell_of_heap HROW.out 7).trans rfl
  have q8 : w.cell? ⟨rb, 8, none⟩ = some (.int .i64 n2) := (Lib.cell_of_heap HROW.out 8).trans rfl
  have q9 : w.cell? ⟨rb, 9, none⟩ = some (.int .i64 m2) := (Lib.cell_of_heap HROW.out 9).trans rfl
  go_enter Tryz.func17, Tryz.ntmps17
  go_wp2_with fail
  refine wp_loop_rounds 3 ?_
  rw [rounds_succ]
  go_wp2_with fail
  refine (H1.out _ (by first | exact Below.refl _ _ | (go_grown; done))).mono ?_; rintro e w1 ⟨rfl, hb⟩
  have hh0 : w1.heap[w.heap.size]? = some (.cells #[.func (.func g) #[] cap, c, a, .bool l] 41 (0, 0)) := (hb.block _ (by first | omega | (simp; done) | (simp; omega))).trans (heap_old (o' := (.cells #[.int .u8 k1, .string nm1, .string tx1, .int .i64 n1, .int .i64 m1] 23 (0, 0))) (heap_new _ _ _ (by first | rfl | simp)))
  have hh1 : w1.heap[w.heap.size + 1]? = some (.cells #[.int .u8 k1, .string nm1, .string tx1, .int .i64 n1, .int .i64 m1] 23 (0, 0)) := (hb.block _ (by first | omega | (simp; done) | (simp; omega))).trans (heap_new _ _ _ (by first | rfl | simp))
  have hbw1 : Below w.heap.size w w1 := (show Below w.heap.size w _ by first | exact Below.refl _ _ | (go_grown; done)).trans (hb.mono (by first | omega | (simp; done) | (simp; omega)))
  clear hb
  have HH0_1 := Lib.hid hh0
  have lt0 := heap_lt hh0
  have c0_0 : w1.cell? ⟨w.heap.size, 0, none⟩ = some (.func (.func g) #[] cap) := by rw [Lib.cell_of_heap hh0]; rfl
  have c0_1 : w1.cell? ⟨w.heap.size, 1, none⟩ = some (c) := by rw [Lib.cell_of_heap hh0]; rfl
  have c0_2 : w1.cell? ⟨w.heap.size, 2, none⟩ = some (a) := by rw [Lib.cell_of_heap hh0]; rfl
  have c0_3 : w1.cell? ⟨w.heap.size, 3, none⟩ = some (.bool l) := by rw [Lib.cell_of_heap hh0]; rfl
  clear hh0
  have HH1_1 := Lib.hid hh1
  have lt1 := heap_lt hh1
  have c1_0 : w1.cell? ⟨w.heap.size + 1, 0, none⟩ = some (.int .u8 k1) := by rw [Lib.cell_of_heap hh1]; rfl
  have c1_1 : w1.cell? ⟨w.heap.size + 1, 1, none⟩ = some (.string nm1) := by rw [Lib.cell_of_heap hh1]; rfl
  have c1_2 : w1.cell? ⟨w.heap.size + 1, 2, none⟩ = some (.string tx1) := by rw [Lib.cell_of_heap hh1]; rfl
  have c1_3 : w1.cell? ⟨w.heap.size + 1, 3, none⟩ = some (.int .i64 n1) := by rw [Lib.cell_of_heap hh1]; rfl
  have c1_4 : w1.cell? ⟨w.heap.size + 1, 4, none⟩ = some (.int .i64 m1) := by rw [Lib.cell_of_heap hh1]; rfl
  clear hh1
  have sz1 := hbw1.size
  have HW1 := Lib.hid hbw1
  clear q0 q1 q2 q3 q4 q5 q6 q7 q8 q9
  have hl1 : rb < w1.heap.size := Nat.lt_of_lt_of_le hlt HW1.out.size
  have q0 : w1.cell? ⟨rb, 0, none⟩ = some (.int .u8 k1) := (HW1.out.cell (p := ⟨rb, 0, none⟩) hlt).trans ((Lib.cell_of_heap HROW.out 0).trans rfl)
  have q1 : w1.cell? ⟨rb, 1, none⟩ = some (.string nm1) := (HW1.out.cell (p := ⟨rb, 1, none⟩) hlt).trans ((Lib.cell_of_heap HROW.out 1).trans rfl)
  have q2 : w1.cell? ⟨rb, 2, none⟩ = some (.string tx1) := (HW1.out.cell (p := ⟨rb, 2, none⟩) hlt).trans ((Lib.cell_of_heap HROW.out 2).trans rfl)
  have q3 : w1.cell? ⟨rb, 3, none⟩ = some (.int .i64 n1) := (HW1.out.cell (p := ⟨rb, 3, none⟩) hlt).trans ((Lib.cell_of_heap HROW.out 3).trans rfl)
  have q4 : w1.cell? ⟨rb, 4, none⟩ = some (.int .i64 m1) := (HW1.out.cell (p := ⟨rb, 4, none⟩) hlt).trans ((Lib.cell_of_heap HROW.out 4).trans rfl)
  have q5 : w1.cell? ⟨rb, 5, none⟩ = some (.int .u8 k2) := (HW1.out.cell (p := ⟨rb, 5, none⟩) hlt).trans ((Lib.cell_of_heap HROW.out 5).trans rfl)
  have q6 : w1.cell? ⟨rb, 6, none⟩ = some (.string ⟨#[]⟩) := (HW1.out.cell (p := ⟨rb, 6, none⟩) hlt).trans ((Lib.cell_of_heap HROW.out 6).trans rfl)
  have q7 : w1.cell? ⟨rb, 7, none⟩ = some (.string tx2) := (HW1.out.cell (p := ⟨rb, 7, none⟩) hlt).trans ((Lib.cell_of_heap HROW.out 7).trans rfl)
  have q8 : w1.cell? ⟨rb, 8, none⟩ = some (.int .i64 n2) := (HW1.out.cell (p := ⟨rb, 8, none⟩) hlt).trans ((Lib.cell_of_heap HROW.out 8).trans rfl)
  have q9 : w1.cell? ⟨rb, 9, none⟩ = some (.int .i64 m2) := (HW1.out.cell (p := ⟨rb, 9, none⟩) hlt).trans ((Lib.cell_of_heap HROW.out 9).trans rfl)
  go_wp2_with fail
  rw [rounds_succ]
  go_wp2_with fail
  refine (H2.out _ (by first | exact HW1.out | exact HW1.out.trans ⟨rfl, rfl, rfl, Nat.le_refl _, fun _ _ => rfl⟩ | (go_grown; done))).mono ?_; rintro e w2 ⟨rfl, hb⟩
  have hv0 := heap_old (o' := (.cells #[.int .u8 k2, .string ⟨#[]⟩, .string tx2, .int .i64 n2, .int .i64 m2] 23 (0, 0))) (heap_old (o' := (.cells #[.int .u8 k1, .string nm1, .string tx1, .int .i64 n1, .int .i64 m1] 23 (0, 0))) (HH0_1.out))
  have hh0 : w2.heap[w.heap.size]? = some (.cells #[.func (.func g) #[] cap, c, a, .bool l] 41 (0, 0)) := (hb.block _ (heap_lt hv0)).trans hv0
  clear hv0
  have hv1 := heap_old (o' := (.cells #[.int .u8 k2, .string ⟨#[]⟩, .string tx2, .int .i64 n2, .int .i64 m2] 23 (0, 0))) (heap_old (o' := (.cells #[.int .u8 k1, .string nm1, .string tx1, .int .i64 n1, .int .i64 m1] 23 (0, 0))) (HH1_1.out))
  have hh1 : w2.heap[w.heap.size + 1]? = some (.cells #[.int .u8 k1, .string nm1, .string tx1, .int .i64 n1, .int .i64 m1] 23 (0, 0)) := (hb.block _ (heap_lt hv1)).trans hv1
  clear hv1
  have hh2 : w2.heap[w1.heap.size]? = some (.cells #[.int .u8 k1, .string nm1, .string tx1, .int .i64 n1, .int .i64 m1] 23 (0, 0)) := (hb.block _ (by first | omega | (simp; done) | (simp; omega))).trans (heap_old (o' := (.cells #[.int .u8 k2, .string ⟨#[]⟩, .string tx2, .int .i64 n2, .int .i64 m2] 23 (0, 0))) (heap_new _ _ _ (by first | rfl | simp)))
  have hh3 : w2.heap[w1.heap.size + 1]? = some (.cells #[.int .u8 k2, .string ⟨#[]⟩, .string tx2, .int .i64 n2, .int .i64 m2] 23 (0, 0)) := (hb.block _ (by first | omega | (simp; done) | (simp; omega))).trans (heap_new _ _ _ (by first | rfl | simp))
  have hbw2 : Below w.heap.size w w2 := (show Below w.heap.size w _ by first | exact HW1.out.trans ⟨rfl, rfl, rfl, Nat.le_refl _, fun _ _ => rfl⟩ | exact HW1.out | (go_grown; done)).trans (hb.mono (by first | omega | (simp; done) | (simp; omega)))
  clear hb lt0 c0_0 c0_1 c0_2 c0_3 lt1 c1_0 c1_1 c1_2 c1_3 c1_4 hbw1
  have HH0_2 := Lib.hid hh0
  have lt0 := heap_lt hh0
  have c0_0 : w2.cell? ⟨w.heap.size, 0, none⟩ = some (.func (.func g) #[] cap) := by rw [Lib.cell_of_heap hh0]; rfl
  have c0_1 : w2.cell? ⟨w.heap.size, 1, none⟩ = some (c) := by rw [Lib.cell_of_heap hh0]; rfl
  have c0_2 : w2.cell? ⟨w.heap.size, 2, none⟩ = some (a) := by rw [Lib.cell_of_heap hh0]; rfl
  have c0_3 : w2.cell? ⟨w.heap.size, 3, none⟩ = some (.bool l) := by rw [Lib.cell_of_heap hh0]; rfl
  clear hh0
  have HH1_2 := Lib.hid hh1
  have lt1 := heap_lt hh1
  have c1_0 : w2.cell? ⟨w.heap.size + 1, 0, none⟩ = some (.int .u8 k1) := by rw [Lib.cell_of_heap hh1]; rfl
  have c1_1 : w2.cell? ⟨w.heap.size + 1, 1, none⟩ = some (.string nm1) := by rw [Lib.cell_of_heap hh1]; rfl
  have c1_2 : w2.cell? ⟨w.heap.size + 1, 2, none⟩ = some (.string tx1) := by rw [Lib.cell_of_heap hh1]; rfl
  have c1_3 : w2.cell? ⟨w.heap.size + 1, 3, none⟩ = some (.int .i64 n1) := by rw [Lib.cell_of_heap hh1]; rfl
  have c1_4 : w2.cell? ⟨w.heap.size + 1, 4, none⟩ = some (.int .i64 m1) := by rw [Lib.cell_of_heap hh1]; rfl
  clear hh1
  have HH2_2 := Lib.hid hh2
  have lt2 := heap_lt hh2
  have c2_0 : w2.cell? ⟨w1.heap.size, 0, none⟩ = some (.int .u8 k1) := by rw [Lib.cell_of_heap hh2]; rfl
  have c2_1 : w2.cell? ⟨w1.heap.size, 1, none⟩ = some (.string nm1) := by rw [Lib.cell_of_heap hh2]; rfl
  have c2_2 : w2.cell? ⟨w1.heap.size, 2, none⟩ = some (.string tx1) := by rw [Lib.cell_of_heap hh2]; rfl
  have c2_3 : w2.cell? ⟨w1.heap.size, 3, none⟩ = some (.int .i64 n1) := by rw [Lib.cell_of_heap hh2]; rfl
  have c2_4 : w2.cell? ⟨w1.heap.size, 4, none⟩ = some (.int .i64 m1) := by rw [Lib.cell_of_heap hh2]; rfl
  clear hh2
  have HH3_2 := Lib.hid hh3
  have lt3 := heap_lt hh3
  have c3_0 : w2.cell? ⟨w1.heap.size + 1, 0, none⟩ = some (.int .u8 k2) := by rw [Lib.cell_of_heap hh3]; rfl
  have c3_1 : w2.cell? ⟨w1.heap.size + 1, 1, none⟩ = some (.string ⟨#[]⟩) := by rw [Lib.cell_of_heap hh3]; rfl
  have c3_2 : w2.cell? ⟨w1.heap.size + 1, 2, none⟩ = some (.string tx2) := by rw [Lib.cell_of_heap hh3]; rfl
  have c3_3 : w2.cell? ⟨w1.heap.size + 1, 3, none⟩ = some (.int .i64 n2) := by rw [Lib.cell_of_heap hh3]; rfl
  have c3_4 : w2.cell? ⟨w1.heap.size + 1, 4, none⟩ = some (.int .i64 m2) := by rw [Lib.cell_of_heap hh3]; rfl
  clear hh3
  have sz2 := hbw2.size
  have HW2 := Lib.hid hbw2
  clear q0 q1 q2 q3 q4 q5 q6 q7 q8 q9
  have hl2 : rb < w2.heap.size := Nat.lt_of_lt_of_le hlt HW2.out.size
  have q0 : w2.cell? ⟨rb, 0, none⟩ = some (.int .u8 k1) := (HW2.out.cell (p := ⟨rb, 0, none⟩) hlt).trans ((Lib.cell_of_heap HROW.out 0).trans rfl)
  have q1 : w2.cell? ⟨rb, 1, none⟩ = some (.string nm1) := (HW2.out.cell (p := ⟨rb, 1, none⟩) hlt).trans ((Lib.cell_of_heap HROW.out 1).trans rfl)
  have q2 : w2.cell? ⟨rb, 2, none⟩ = some (.string tx1) := (HW2.out.cell (p := ⟨rb, 2, none⟩) hlt).trans ((Lib.cell_of_heap HROW.out 2).trans rfl)
  have q3 : w2.cell? ⟨rb, 3, none⟩ = some (.int .i64 n1) := (HW2.out.cell (p := ⟨rb, 3, none⟩) hlt).trans ((Lib.cell_of_heap HROW.out 3).trans rfl)
  have q4 : w2.cell? ⟨rb, 4, none⟩ = some (.int .i64 m1) := (HW2.out.cell (p := ⟨rb, 4, none⟩) hlt).trans ((Lib.cell_of_heap HROW.out 4).trans rfl)
  have q5 : w2.cell? ⟨rb, 5, none⟩ = some (.int .u8 k2) := (HW2.out.cell (p := ⟨rb, 5, none⟩) hlt).trans ((Lib.cell_of_heap HROW.out 5).trans rfl)
  have q6 : w2.cell? ⟨rb, 6, none⟩ = some (.string ⟨#[]⟩) := (HW2.out.cell (p := ⟨rb, 6, none⟩) hlt).trans ((Lib.cell_of_heap HROW.out 6).trans rfl)
  have q7 : w2.cell? ⟨rb, 7, none⟩ = some (.string tx2) := (HW2.out.cell (p := ⟨rb, 7, none⟩) hlt).trans ((Lib.cell_of_heap HROW.out 7).trans rfl)
  have q8 : w2.cell? ⟨rb, 8, none⟩ = some (.int .i64 n2) := (HW2.out.cell (p := ⟨rb, 8, none⟩) hlt).trans ((Lib.cell_of_heap HROW.out 8).trans rfl)
  have q9 : w2.cell? ⟨rb, 9, none⟩ = some (.int .i64 m2) := (HW2.out.cell (p := ⟨rb, 9, none⟩) hlt).trans ((Lib.cell_of_heap HROW.out 9).trans rfl)
  go_wp2_with fail
  go_ret
  exact ⟨rfl, by first | exact HW2.out | (go_grown; done)⟩
set_option maxRecDepth 100000 in
set_option maxHeartbeats 4000000 in
theorem asked_2_bad2_3 (g : Nat) (cap : Array Value) (c a : Value) (l : Bool) (k1 : Int) (nm1 tx1 : ByteArray) (n1 m1 : Int) (k2 : Int) (tx2 : ByteArray) (n2 m2 : Int) (yn : Int) (rb : Nat) (w : World) (hne : (yn == n2) = false) (HROW : Hid (w.heap[rb]? = some (.cells #[.int .u8 k1, .string nm1, .string tx1, .int .i64 n1, .int .i64 m1, .int .u8 k2, .string ⟨#[]⟩, .string tx2, .int .i64 n2, .int .i64 m2] 23 (0, 0)))) (H1 : Hid (DoesU w 16 #[.agg #[.func (.func g) #[] cap, c, a, .bool l], .agg #[.int .u8 k1, .string nm1, .string tx1, .int .i64 n1, .int .i64 m1]] (.tuple #[.agg #[.int .u8 k1, .string nm1, .string tx1, .int .i64 n1, .int .i64 m1], .bool true]))) (H2 : Hid (DoesU w 16 #[.agg #[.func (.func g) #[] cap, c, a, .bool l], .agg #[.int .u8 k2, .string ⟨#[]⟩, .string tx2, .int .i64 n2, .int .i64 m2]] (.tuple #[.agg #[.int .u8 k2, .string ⟨#[]⟩, .string tx2, .int .i64 yn, .int .i64 0], .bool true]))) :
    Calls Tryz.prog 17 #[.agg #[.func (.func g) #[] cap, c, a, .bool l], .bool true, .slice (some ⟨rb, 0, none⟩) 2 2] w fun e w' => e = .returned (.int .i64 160) ∧ Below w.heap.size w w' := by
  have hlt : rb < w.heap.size := heap_lt HROW.out
  have q0 : w.cell? ⟨rb, 0, none⟩ = some (.int .u8 k1) := (Lib.cell_of_heap HROW.out 0).trans rfl
  have q1 : w.cell? ⟨rb, 1, none⟩ = some (.string nm1) := (Lib.cell_of_heap HROW.out 1).trans rfl
  have q2 : w.cell? ⟨rb, 2, none⟩ = some (.string tx1) := (Lib.cell_of_heap HROW.out 2).trans rfl
  have q3 : w.cell? ⟨rb, 3, none⟩ = some (.int .i64 n1) := (Lib.cell_of_heap HROW.out 3).trans rfl
  have q4 : w.cell? ⟨rb, 4, none⟩ = some (.int .i64 m1) := (Lib.cell_of_heap HROW.out 4).trans rfl
  have q5 : w.cell? ⟨rb, 5, none⟩ = some (.int .u8 k2) := (Lib.cell_of_heap HROW.out 5).trans rfl
  have q6 : w.cell? ⟨rb, 6, none⟩ = some (.string ⟨#[]⟩) := (Lib.cell_of_heap HROW.out 6).trans rfl
  have q7 : w.cell? ⟨rb, 7, none⟩ = some (.string tx2) := (Lib.cell_of_heap HROW.out 7).trans rfl
  have q8 : w.cell? ⟨rb, 8, none⟩ = some (.int .i64 n2) := (Lib.cell_of_heap HROW.out 8).trans rfl
  have q9 : w.cell? ⟨rb, 9, none⟩ = some (.int .i64 m2) := (Lib.cell_of_heap HROW.out 9).trans rfl
  go_enter Tryz.func17, Tryz.ntmps17
  go_wp2_with fail
  refine wp_loop_rounds 3 ?_
  rw [rounds_succ]
  go_wp2_with fail
  refine (H1.out _ (by first | exact Below.refl _ _ | (go_grown; done))).mono ?_; rintro e w1 ⟨rfl, hb⟩
  have hh0 : w1.heap[w.heap.size]? = some (.cells #[.func (.func g) #[] cap, c, a, .bool l] 41 (0, 0)) := (hb.block _ (by first | omega | (simp; done) | (simp; omega))).trans (heap_old (o' := (.cells #[.int .u8 k1, .string nm1, .string tx1, .int .i64 n1, .int .i64 m1] 23 (0, 0))) (heap_new _ _ _ (by first | rfl | simp)))
  have hh1 : w1.heap[w.heap.size + 1]? = some (.cells #[.int .u8 k1, .string nm1, .string tx1, .int .i64 n1, .int .i64 m1] 23 (0, 0)) := (hb.block _ (by first | omega | (simp; done) | (simp; omega))).trans (heap_new _ _ _ (by first | rfl | simp))
  have hbw1 : Below w.heap.size w w1 := (show Below w.heap.size w _ by first | exact Below.refl _ _ | (go_grown; done)).trans (hb.mono (by first | omega | (simp; done) | (simp; omega)))
  clear hb
  have HH0_1 := Lib.hid hh0
  have lt0 := heap_lt hh0
  have c0_0 : w1.cell? ⟨w.heap.size, 0, none⟩ = some (.func (.func g) #[] cap) := by rw [Lib.cell_of_heap hh0]; rfl
  have c0_1 : w1.cell? ⟨w.heap.size, 1, none⟩ = some (c) := by rw [Lib.cell_of_heap hh0]; rfl
  have c0_2 : w1.cell? ⟨w.heap.size, 2, none⟩ = some (a) := by rw [Lib.cell_of_heap hh0]; rfl
  have c0_3 : w1.cell? ⟨w.heap.size, 3, none⟩ = some (.bool l) := by rw [Lib.cell_of_heap hh0]; rfl
  clear hh0
  have HH1_1 := Lib.hid hh1
  have lt1 := heap_lt hh1
  have c1_0 : w1.cell? ⟨w.heap.size + 1, 0, none⟩ = some (.int .u8 k1) := by rw [Lib.cell_of_heap hh1]; rfl
  have c1_1 : w1.cell? ⟨w.heap.size + 1, 1, none⟩ = some (.string nm1) := by rw [Lib.cell_of_heap hh1]; rfl
  have c1_2 : w1.cell? ⟨w.heap.size + 1, 2, none⟩ = some (.string tx1) := by rw [Lib.cell_of_heap hh1]; rfl
  have c1_3 : w1.cell? ⟨w.heap.size + 1, 3, none⟩ = some (.int .i64 n1) := by rw [Lib.cell_of_heap hh1]; rfl
  have c1_4 : w1.cell? ⟨w.heap.size + 1, 4, none⟩ = some (.int .i64 m1) := by rw [Lib.cell_of_heap hh1]; rfl
  clear hh1
  have sz1 := hbw1.size
  have HW1 := Lib.hid hbw1
  clear q0 q1 q2 q3 q4 q5 q6 q7 q8 q9
  have hl1 : rb < w1.heap.size := Nat.lt_of_lt_of_le hlt HW1.out.size
  have q0 : w1.cell? ⟨rb, 0, none⟩ = some (.int .u8 k1) := (HW1.out.cell (p := ⟨rb, 0, none⟩) hlt).trans ((Lib.cell_of_heap HROW.out 0).trans rfl)
  have q1 : w1.cell? ⟨rb, 1, none⟩ = some (.string nm1) := (HW1.out.cell (p := ⟨rb, 1, none⟩) hlt).trans ((Lib.cell_of_heap HROW.out 1).trans rfl)
  have q2 : w1.cell? ⟨rb, 2, none⟩ = some (.string tx1) := (HW1.out.cell (p := ⟨rb, 2, none⟩) hlt).trans ((Lib.cell_of_heap HROW.out 2).trans rfl)
  have q3 : w1.cell? ⟨rb, 3, none⟩ = some (.int .i64 n1) := (HW1.out.cell (p := ⟨rb, 3, none⟩) hlt).trans ((Lib.cell_of_heap HROW.out 3).trans rfl)
  have q4 : w1.cell? ⟨rb, 4, none⟩ = some (.int .i64 m1) := (HW1.out.cell (p := ⟨rb, 4, none⟩) hlt).trans ((Lib.cell_of_heap HROW.out 4).trans rfl)
  have q5 : w1.cell? ⟨rb, 5, none⟩ = some (.int .u8 k2) := (HW1.out.cell (p := ⟨rb, 5, none⟩) hlt).trans ((Lib.cell_of_heap HROW.out 5).trans rfl)
  have q6 : w1.cell? ⟨rb, 6, none⟩ = some (.string ⟨#[]⟩) := (HW1.out.cell (p := ⟨rb, 6, none⟩) hlt).trans ((Lib.cell_of_heap HROW.out 6).trans rfl)
  have q7 : w1.cell? ⟨rb, 7, none⟩ = some (.string tx2) := (HW1.out.cell (p := ⟨rb, 7, none⟩) hlt).trans ((Lib.cell_of_heap HROW.out 7).trans rfl)
  have q8 : w1.cell? ⟨rb, 8, none⟩ = some (.int .i64 n2) := (HW1.out.cell (p := ⟨rb, 8, none⟩) hlt).trans ((Lib.cell_of_heap HROW.out 8).trans rfl)
  have q9 : w1.cell? ⟨rb, 9, none⟩ = some (.int .i64 m2) := (HW1.out.cell (p := ⟨rb, 9, none⟩) hlt).trans ((Lib.cell_of_heap HROW.out 9).trans rfl)
  go_wp2_with fail
  rw [rounds_succ]
  go_wp2_with fail
  refine (H2.out _ (by first | exact HW1.out | exact HW1.out.trans ⟨rfl, rfl, rfl, Nat.le_refl _, fun _ _ => rfl⟩ | (go_grown; done))).mono ?_; rintro e w2 ⟨rfl, hb⟩
  have hv0 := heap_old (o' := (.cells #[.int .u8 k2, .string ⟨#[]⟩, .string tx2, .int .i64 n2, .int .i64 m2] 23 (0, 0))) (heap_old (o' := (.cells #[.int .u8 k1, .string nm1, .string tx1, .int .i64 n1, .int .i64 m1] 23 (0, 0))) (HH0_1.out))
  have hh0 : w2.heap[w.heap.size]? = some (.cells #[.func (.func g) #[] cap, c, a, .bool l] 41 (0, 0)) := (hb.block _ (heap_lt hv0)).trans hv0
  clear hv0
  have hv1 := heap_old (o' := (.cells #[.int .u8 k2, .string ⟨#[]⟩, .string tx2, .int .i64 n2, .int .i64 m2] 23 (0, 0))) (heap_old (o' := (.cells #[.int .u8 k1, .string nm1, .string tx1, .int .i64 n1, .int .i64 m1] 23 (0, 0))) (HH1_1.out))
  have hh1 : w2.heap[w.heap.size + 1]? = some (.cells #[.int .u8 k1, .string nm1, .string tx1, .int .i64 n1, .int .i64 m1] 23 (0, 0)) := (hb.block _ (heap_lt hv1)).trans hv1
  clear hv1
  have hh2 : w2.heap[w1.heap.size]? = some (.cells #[.int .u8 k1, .string nm1, .string tx1, .int .i64 n1, .int .i64 m1] 23 (0, 0)) := (hb.block _ (by first | omega | (simp; done) | (simp; omega))).trans (heap_old (o' := (.cells #[.int .u8 k2, .string ⟨#[]⟩, .string tx2, .int .i64 n2, .int .i64 m2] 23 (0, 0))) (heap_new _ _ _ (by first | rfl | simp)))
  have hh3 : w2.heap[w1.heap.size + 1]? = some (.cells #[.int .u8 k2, .string ⟨#[]⟩, .string tx2, .int .i64 n2, .int .i64 m2] 23 (0, 0)) := (hb.block _ (by first | omega | (simp; done) | (simp; omega))).trans (heap_new _ _ _ (by first | rfl | simp))
  have hbw2 : Below w.heap.size w w2 := (show Below w.heap.size w _ by first | exact HW1.out.trans ⟨rfl, rfl, rfl, Nat.le_refl _, fun _ _ => rfl⟩ | exact HW1.out | (go_grown; done)).trans (hb.mono (by first | omega | (simp; done) | (simp; omega)))
  clear hb lt0 c0_0 c0_1 c0_2 c0_3 lt1 c1_0 c1_1 c1_2 c1_3 c1_4 hbw1
  have HH0_2 := Lib.hid hh0
  have lt0 := heap_lt hh0
  have c0_0 : w2.cell? ⟨w.heap.size, 0, none⟩ = some (.func (.func g) #[] cap) := by rw [Lib.cell_of_heap hh0]; rfl
  have c0_1 : w2.cell? ⟨w.heap.size, 1, none⟩ = some (c) := by rw [Lib.cell_of_heap hh0]; rfl
  have c0_2 : w2.cell? ⟨w.heap.size, 2, none⟩ = some (a) := by rw [Lib.cell_of_heap hh0]; rfl
  have c0_3 : w2.cell? ⟨w.heap.size, 3, none⟩ = some (.bool l) := by rw [Lib.cell_of_heap hh0]; rfl
  clear hh0
  have HH1_2 := Lib.hid hh1
  have lt1 := heap_lt hh1
  have c1_0 : w2.cell? ⟨w.heap.size + 1, 0, none⟩ = some (.int .u8 k1) := by rw [Lib.cell_of_heap hh1]; rfl
  have c1_1 : w2.cell? ⟨w.heap.size + 1, 1, none⟩ = some (.string nm1) := by rw [Lib.cell_of_heap hh1]; rfl
  have c1_2 : w2.cell? ⟨w.heap.size + 1, 2, none⟩ = some (.string tx1) := by rw [Lib.cell_of_heap hh1]; rfl
  have c1_3 : w2.cell? ⟨w.heap.size + 1, 3, none⟩ = some (.int .i64 n1) := by rw [Lib.cell_of_heap hh1]; rfl
  have c1_4 : w2.cell? ⟨w.heap.size + 1, 4, none⟩ = some (.int .i64 m1) := by rw [Lib.cell_of_heap hh1]; rfl
  clear hh1
  have HH2_2 := Lib.hid hh2
  have lt2 := heap_lt hh2
  have c2_0 : w2.cell? ⟨w1.heap.size, 0, none⟩ = some (.int .u8 k1) := by rw [Lib.cell_of_heap hh2]; rfl
  have c2_1 : w2.cell? ⟨w1.heap.size, 1, none⟩ = some (.string nm1) := by rw [Lib.cell_of_heap hh2]; rfl
  have c2_2 : w2.cell? ⟨w1.heap.size, 2, none⟩ = some (.string tx1) := by rw [Lib.cell_of_heap hh2]; rfl
  have c2_3 : w2.cell? ⟨w1.heap.size, 3, none⟩ = some (.int .i64 n1) := by rw [Lib.cell_of_heap hh2]; rfl
  have c2_4 : w2.cell? ⟨w1.heap.size, 4, none⟩ = some (.int .i64 m1) := by rw [Lib.cell_of_heap hh2]; rfl
  clear hh2
  have HH3_2 := Lib.hid hh3
  have lt3 := heap_lt hh3
  have c3_0 : w2.cell? ⟨w1.heap.size + 1, 0, none⟩ = some (.int .u8 k2) := by rw [Lib.cell_of_heap hh3]; rfl
  have c3_1 : w2.cell? ⟨w1.heap.size + 1, 1, none⟩ = some (.string ⟨#[]⟩) := by rw [Lib.cell_of_heap hh3]; rfl
  have c3_2 : w2.cell? ⟨w1.heap.size + 1, 2, none⟩ = some (.string tx2) := by rw [Lib.cell_of_heap hh3]; rfl
  have c3_3 : w2.cell? ⟨w1.heap.size + 1, 3, none⟩ = some (.int .i64 n2) := by rw [Lib.cell_of_heap hh3]; rfl
  have c3_4 : w2.cell? ⟨w1.heap.size + 1, 4, none⟩ = some (.int .i64 m2) := by rw [Lib.cell_of_heap hh3]; rfl
  clear hh3
  have sz2 := hbw2.size
  have HW2 := Lib.hid hbw2
  clear q0 q1 q2 q3 q4 q5 q6 q7 q8 q9
  have hl2 : rb < w2.heap.size := Nat.lt_of_lt_of_le hlt HW2.out.size
  have q0 : w2.cell? ⟨rb, 0, none⟩ = some (.int .u8 k1) := (HW2.out.cell (p := ⟨rb, 0, none⟩) hlt).trans ((Lib.cell_of_heap HROW.out 0).trans rfl)
  have q1 : w2.cell? ⟨rb, 1, none⟩ = some (.string nm1) := (HW2.out.cell (p := ⟨rb, 1, none⟩) hlt).trans ((Lib.cell_of_heap HROW.out 1).trans rfl)
  have q2 : w2.cell? ⟨rb, 2, none⟩ = some (.string tx1) := (HW2.out.cell (p := ⟨rb, 2, none⟩) hlt).trans ((Lib.cell_of_heap HROW.out 2).trans rfl)
  have q3 : w2.cell? ⟨rb, 3, none⟩ = some (.int .i64 n1) := (HW2.out.cell (p := ⟨rb, 3, none⟩) hlt).trans ((Lib.cell_of_heap HROW.out 3).trans rfl)
  have q4 : w2.cell? ⟨rb, 4, none⟩ = some (.int .i64 m1) := (HW2.out.cell (p := ⟨rb, 4, none⟩) hlt).trans ((Lib.cell_of_heap HROW.out 4).trans rfl)
  have q5 : w2.cell? ⟨rb, 5, none⟩ = some (.int .u8 k2) := (HW2.out.cell (p := ⟨rb, 5, none⟩) hlt).trans ((Lib.cell_of_heap HROW.out 5).trans rfl)
  have q6 : w2.cell? ⟨rb, 6, none⟩ = some (.string ⟨#[]⟩) := (HW2.out.cell (p := ⟨rb, 6, none⟩) hlt).trans ((Lib.cell_of_heap HROW.out 6).trans rfl)
  have q7 : w2.cell? ⟨rb, 7, none⟩ = some (.string tx2) := (HW2.out.cell (p := ⟨rb, 7, none⟩) hlt).trans ((Lib.cell_of_heap HROW.out 7).trans rfl)
  have q8 : w2.cell? ⟨rb, 8, none⟩ = some (.int .i64 n2) := (HW2.out.cell (p := ⟨rb, 8, none⟩) hlt).trans ((Lib.cell_of_heap HROW.out 8).trans rfl)
  have q9 : w2.cell? ⟨rb, 9, none⟩ = some (.int .i64 m2) := (HW2.out.cell (p := ⟨rb, 9, none⟩) hlt).trans ((Lib.cell_of_heap HROW.out 9).trans rfl)
  go_wp2_with fail
  go_ret
  exact ⟨rfl, by first | exact HW2.out | (go_grown; done)⟩
set_option maxRecDepth 100000 in
set_option maxHeartbeats 4000000 in
theorem asked_2_bad2_4 (g : Nat) (cap : Array Value) (c a : Value) (l : Bool) (k1 : Int) (nm1 tx1 : ByteArray) (n1 m1 : Int) (k2 : Int) (tx2 : ByteArray) (n2 m2 : Int)  (rb : Nat) (w : World) (hne : ((0 : Int) == m2) = false) (HROW : Hid (w.heap[rb]? = some (.cells #[.int .u8 k1, .string nm1, .string tx1, .int .i64 n1, .int .i64 m1, .int .u8 k2, .string ⟨#[]⟩, .string tx2, .int .i64 n2, .int .i64 m2] 23 (0, 0)))) (H1 : Hid (DoesU w 16 #[.agg #[.func (.func g) #[] cap, c, a, .bool l], .agg #[.int .u8 k1, .string nm1, .string tx1, .int .i64 n1, .int .i64 m1]] (.tuple #[.agg #[.int .u8 k1, .string nm1, .string tx1, .int .i64 n1, .int .i64 m1], .bool true]))) (H2 : Hid (DoesU w 16 #[.agg #[.func (.func g) #[] cap, c, a, .bool l], .agg #[.int .u8 k2, .string ⟨#[]⟩, .string tx2, .int .i64 n2, .int .i64 m2]] (.tuple #[.agg #[.int .u8 k2, .string ⟨#[]⟩, .string tx2, .int .i64 n2, .int .i64 0], .bool true]))) :
    Calls Tryz.prog 17 #[.agg #[.func (.func g) #[] cap, c, a, .bool l], .bool true, .slice (some ⟨rb, 0, none⟩) 2 2] w fun e w' => e = .returned (.int .i64 160) ∧ Below w.heap.size w w' := by
  have hlt : rb < w.heap.size := heap_lt HROW.out
  have q0 : w.cell? ⟨rb, 0, none⟩ = some (.int .u8 k1) := (Lib.cell_of_heap HROW.out 0).trans rfl
  have q1 : w.cell? ⟨rb, 1, none⟩ = some (.string nm1) := (Lib.cell_of_heap HROW.out 1).trans rfl
  have q2 : w.cell? ⟨rb, 2, none⟩ = some (.string tx1) := (Lib.cell_of_heap HROW.out 2).trans rfl
  have q3 : w.cell? ⟨rb, 3, none⟩ = some (.int .i64 n1) := (Lib.cell_of_heap HROW.out 3).trans rfl
  have q4 : w.cell? ⟨rb, 4, none⟩ = some (.int .i64 m1) := (Lib.cell_of_heap HROW.out 4).trans rfl
  have q5 : w.cell? ⟨rb, 5, none⟩ = some (.int .u8 k2) := (Lib.cell_of_heap HROW.out 5).trans rfl
  have q6 : w.cell? ⟨rb, 6, none⟩ = some (.string ⟨#[]⟩) := (Lib.cell_of_heap HROW.out 6).trans rfl
  have q7 : w.cell? ⟨rb, 7, none⟩ = some (.string tx2) := (Lib.cell_of_heap HROW.out 7).trans rfl
  have q8 : w.cell? ⟨rb, 8, none⟩ = some (.int .i64 n2) := (Lib.cell_of_heap HROW.out 8).trans rfl
  have q9 : w.cell? ⟨rb, 9, none⟩ = some (.int .i64 m2) := (Lib.cell_of_heap HROW.out 9).trans rfl
  go_enter Tryz.func17, Tryz.ntmps17
  go_wp2_with fail
  refine wp_loop_rounds 3 ?_
  rw [rounds_succ]
  go_wp2_with fail
  refine (H1.out _ (by first | exact Below.refl _ _ | (go_grown; done))).mono ?_; rintro e w1 ⟨rfl, hb⟩
  have hh0 : w1.heap[w.heap.size]? = some (.cells #[.func (.func g) #[] cap, c, a, .bool l] 41 (0, 0)) := (hb.block _ (by first | omega | (simp; done) | (simp; omega))).trans (heap_old (o' := (.cells #[.int .u8 k1, .string nm1, .string tx1, .int .i64 n1, .int .i64 m1] 23 (0, 0))) (heap_new _ _ _ (by first | rfl | simp)))
  have hh1 : w1.heap[w.heap.size + 1]? = some (.cells #[.int .u8 k1, .string nm1, .string tx1, .int .i64 n1, .int .i64 m1] 23 (0, 0)) := (hb.block _ (by first | omega | (simp; done) | (simp; omega))).trans (heap_new _ _ _ (by first | rfl | simp))
  have hbw1 : Below w.heap.size w w1 := (show Below w.heap.size w _ by first | exact Below.refl _ _ | (go_grown; done)).trans (hb.mono (by first | omega | (simp; done) | (simp; omega)))
  clear hb
  have HH0_1 := Lib.hid hh0
  have lt0 := heap_lt hh0
  have c0_0 : w1.cell? ⟨w.heap.size, 0, none⟩ = some (.func (.func g) #[] cap) := by rw [Lib.cell_of_heap hh0]; rfl
  have c0_1 : w1.cell? ⟨w.heap.size, 1, none⟩ = some (c) := by rw [Lib.cell_of_heap hh0]; rfl
  have c0_2 : w1.cell? ⟨w.heap.size, 2, none⟩ = some (a) := by rw [Lib.cell_of_heap hh0]; rfl
  have c0_3 : w1.cell? ⟨w.heap.size, 3, none⟩ = some (.bool l) := by rw [Lib.cell_of_heap hh0]; rfl
  clear hh0
  have HH1_1 := Lib.hid hh1
  have lt1 := heap_lt hh1
  have c1_0 : w1.cell? ⟨w.heap.size + 1, 0, none⟩ = some (.int .u8 k1) := by rw [Lib.cell_of_heap hh1]; rfl
  have c1_1 : w1.cell? ⟨w.heap.size + 1, 1, none⟩ = some (.string nm1) := by rw [Lib.cell_of_heap hh1]; rfl
  have c1_2 : w1.cell? ⟨w.heap.size + 1, 2, none⟩ = some (.string tx1) := by rw [Lib.cell_of_heap hh1]; rfl
  have c1_3 : w1.cell? ⟨w.heap.size + 1, 3, none⟩ = some (.int .i64 n1) := by rw [Lib.cell_of_heap hh1]; rfl
  have c1_4 : w1.cell? ⟨w.heap.size + 1, 4, none⟩ = some (.int .i64 m1) := by rw [Lib.cell_of_heap hh1]; rfl
  clear hh1
  have sz1 := hbw1.size
  have HW1 := Lib.hid hbw1
  clear q0 q1 q2 q3 q4 q5 q6 q7 q8 q9
  have hl1 : rb < w1.heap.size := Nat.lt_of_lt_of_le hlt HW1.out.size
  have q0 : w1.cell? ⟨rb, 0, none⟩ = some (.int .u8 k1) := (HW1.out.cell (p := ⟨rb, 0, none⟩) hlt).trans ((Lib.cell_of_heap HROW.out 0).trans rfl)
  have q1 : w1.cell? ⟨rb, 1, none⟩ = some (.string nm1) := (HW1.out.cell (p := ⟨rb, 1, none⟩) hlt).trans ((Lib.cell_of_heap HROW.out 1).trans rfl)
  have q2 : w1.cell? ⟨rb, 2, none⟩ = some (.string tx1) := (HW1.out.cell (p := ⟨rb, 2, none⟩) hlt).trans ((Lib.cell_of_heap HROW.out 2).trans rfl)
  have q3 : w1.cell? ⟨rb, 3, none⟩ = some (.int .i64 n1) := (HW1.out.cell (p := ⟨rb, 3, none⟩) hlt).trans ((Lib.cell_of_heap HROW.out 3).trans rfl)
  have q4 : w1.cell? ⟨rb, 4, none⟩ = some (.int .i64 m1) := (HW1.out.cell (p := ⟨rb, 4, none⟩) hlt).trans ((Lib.cell_of_heap HROW.out 4).trans rfl)
  have q5 : w1.cell? ⟨rb, 5, none⟩ = some (.int .u8 k2) := (HW1.out.cell (p := ⟨rb, 5, none⟩) hlt).trans ((Lib.cell_of_heap HROW.out 5).trans rfl)
  have q6 : w1.cell? ⟨rb, 6, none⟩ = some (.string ⟨#[]⟩) := (HW1.out.cell (p := ⟨rb, 6, none⟩) hlt).trans ((Lib.cell_of_heap HROW.out 6).trans rfl)
  have q7 : w1.cell? ⟨rb, 7, none⟩ = some (.string tx2) := (HW1.out.cell (p := ⟨rb, 7, none⟩) hlt).trans ((Lib.cell_of_heap HROW.out 7).trans rfl)
  have q8 : w1.cell? ⟨rb, 8, none⟩ = some (.int .i64 n2) := (HW1.out.cell (p := ⟨rb, 8, none⟩) hlt).trans ((Lib.cell_of_heap HROW.out 8).trans rfl)
  have q9 : w1.cell? ⟨rb, 9, none⟩ = some (.int .i64 m2) := (HW1.out.cell (p := ⟨rb, 9, none⟩) hlt).trans ((Lib.cell_of_heap HROW.out 9).trans rfl)
  go_wp2_with fail
  rw [rounds_succ]
  go_wp2_with fail
  refine (H2.out _ (by first | exact HW1.out | exact HW1.out.trans ⟨rfl, rfl, rfl, Nat.le_refl _, fun _ _ => rfl⟩ | (go_grown; done))).mono ?_; rintro e w2 ⟨rfl, hb⟩
  have hv0 := heap_old (o' := (.cells #[.int .u8 k2, .string ⟨#[]⟩, .string tx2, .int .i64 n2, .int .i64 m2] 23 (0, 0))) (heap_old (o' := (.cells #[.int .u8 k1, .string nm1, .string tx1, .int .i64 n1, .int .i64 m1] 23 (0, 0))) (HH0_1.out))
  have hh0 : w2.heap[w.heap.size]? = some (.cells #[.func (.func g) #[] cap, c, a, .bool l] 41 (0, 0)) := (hb.block _ (heap_lt hv0)).trans hv0
  clear hv0
  have hv1 := heap_old (o' := (.cells #[.int .u8 k2, .string ⟨#[]⟩, .string tx2, .int .i64 n2, .int .i64 m2] 23 (0, 0))) (heap_old (o' := (.cells #[.int .u8 k1, .string nm1, .string tx1, .int .i64 n1, .int .i64 m1] 23 (0, 0))) (HH1_1.out))
  have hh1 : w2.heap[w.heap.size + 1]? = some (.cells #[.int .u8 k1, .string nm1, .string tx1, .int .i64 n1, .int .i64 m1] 23 (0, 0)) := (hb.block _ (heap_lt hv1)).trans hv1
  clear hv1
  have hh2 : w2.heap[w1.heap.size]? = some (.cells #[.int .u8 k1, .string nm1, .string tx1, .int .i64 n1, .int .i64 m1] 23 (0, 0)) := (hb.block _ (by first | omega | (simp; done) | (simp; omega))).trans (heap_old (o' := (.cells #[.int .u8 k2, .string ⟨#[]⟩, .string tx2, .int .i64 n2, .int .i64 m2] 23 (0, 0))) (heap_new _ _ _ (by first | rfl | simp)))
  have hh3 : w2.heap[w1.heap.size + 1]? = some (.cells #[.int .u8 k2, .string ⟨#[]⟩, .string tx2, .int .i64 n2, .int .i64 m2] 23 (0, 0)) := (hb.block _ (by first | omega | (simp; done) | (simp; omega))).trans (heap_new _ _ _ (by first | rfl | simp))
  have hbw2 : Below w.heap.size w w2 := (show Below w.heap.size w _ by first | exact HW1.out.trans ⟨rfl, rfl, rfl, Nat.le_refl _, fun _ _ => rfl⟩ | exact HW1.out | (go_grown; done)).trans (hb.mono (by first | omega | (simp; done) | (simp; omega)))
  clear hb lt0 c0_0 c0_1 c0_2 c0_3 lt1 c1_0 c1_1 c1_2 c1_3 c1_4 hbw1
  have HH0_2 := Lib.hid hh0
  have lt0 := heap_lt hh0
  have c0_0 : w2.cell? ⟨w.heap.size, 0, none⟩ = some (.func (.func g) #[] cap) := by rw [Lib.cell_of_heap hh0]; rfl
  have c0_1 : w2.cell? ⟨w.heap.size, 1, none⟩ = some (c) := by rw [Lib.cell_of_heap hh0]; rfl
  have c0_2 : w2.cell? ⟨w.heap.size, 2, none⟩ = some (a) := by rw [Lib.cell_of_heap hh0]; rfl
  have c0_3 : w2.cell? ⟨w.heap.size, 3, none⟩ = some (.bool l) := by rw [Lib.cell_of_heap hh0]; rfl
  clear hh0
  have HH1_2 := Lib.hid hh1
  have lt1 := heap_lt hh1
  have c1_0 : w2.cell? ⟨w.heap.size + 1, 0, none⟩ = some (.int .u8 k1) := by rw [Lib.cell_of_heap hh1]; rfl
  have c1_1 : w2.cell? ⟨w.heap.size + 1, 1, none⟩ = some (.string nm1) := by rw [Lib.cell_of_heap hh1]; rfl
  have c1_2 : w2.cell? ⟨w.heap.size + 1, 2, none⟩ = some (.string tx1) := by rw [Lib.cell_of_heap hh1]; rfl
  have c1_3 : w2.cell? ⟨w.heap.size + 1, 3, none⟩ = some (.int .i64 n1) := by rw [Lib.cell_of_heap hh1]; rfl
  have c1_4 : w2.cell? ⟨w.heap.size + 1, 4, none⟩ = some (.int .i64 m1) := by rw [Lib.cell_of_heap hh1]; rfl
  clear hh1
  have HH2_2 := Lib.hid hh2
  have lt2 := heap_lt hh2
  have c2_0 : w2.cell? ⟨w1.heap.size, 0, none⟩ = some (.int .u8 k1) := by rw [Lib.cell_of_heap hh2]; rfl
  have c2_1 : w2.cell? ⟨w1.heap.size, 1, none⟩ = some (.string nm1) := by rw [Lib.cell_of_heap hh2]; rfl
  have c2_2 : w2.cell? ⟨w1.heap.size, 2, none⟩ = some (.string tx1) := by rw [Lib.cell_of_heap hh2]; rfl
  have c2_3 : w2.cell? ⟨w1.heap.size, 3, none⟩ = some (.int .i64 n1) := by rw [Lib.cell_of_heap hh2]; rfl
  have c2_4 : w2.cell? ⟨w1.heap.size, 4, none⟩ = some (.int .i64 m1) := by rw [Lib.cell_of_heap hh2]; rfl
  clear hh2
  have HH3_2 := Lib.hid hh3
  have lt3 := heap_lt hh3
  have c3_0 : w2.cell? ⟨w1.heap.size + 1, 0, none⟩ = some (.int .u8 k2) := by rw [Lib.cell_of_heap hh3]; rfl
  have c3_1 : w2.cell? ⟨w1.heap.size + 1, 1, none⟩ = some (.string ⟨#[]⟩) := by rw [Lib.cell_of_heap hh3]; rfl
  have c3_2 : w2.cell? ⟨w1.heap.size + 1, 2, none⟩ = some (.string tx2) := by rw [Lib.cell_of_heap hh3]; rfl
  have c3_3 : w2.cell? ⟨w1.heap.size + 1, 3, none⟩ = some (.int .i64 n2) := by rw [Lib.cell_of_heap hh3]; rfl
  have c3_4 : w2.cell? ⟨w1.heap.size + 1, 4, none⟩ = some (.int .i64 m2) := by rw [Lib.cell_of_heap hh3]; rfl
  clear hh3
  have sz2 := hbw2.size
  have HW2 := Lib.hid hbw2
  clear q0 q1 q2 q3 q4 q5 q6 q7 q8 q9
  have hl2 : rb < w2.heap.size := Nat.lt_of_lt_of_le hlt HW2.out.size
  have q0 : w2.cell? ⟨rb, 0, none⟩ = some (.int .u8 k1) := (HW2.out.cell (p := ⟨rb, 0, none⟩) hlt).trans ((Lib.cell_of_heap HROW.out 0).trans rfl)
  have q1 : w2.cell? ⟨rb, 1, none⟩ = some (.string nm1) := (HW2.out.cell (p := ⟨rb, 1, none⟩) hlt).trans ((Lib.cell_of_heap HROW.out 1).trans rfl)
  have q2 : w2.cell? ⟨rb, 2, none⟩ = some (.string tx1) := (HW2.out.cell (p := ⟨rb, 2, none⟩) hlt).trans ((Lib.cell_of_heap HROW.out 2).trans rfl)
  have q3 : w2.cell? ⟨rb, 3, none⟩ = some (.int .i64 n1) := (HW2.out.cell (p := ⟨rb, 3, none⟩) hlt).trans ((Lib.cell_of_heap HROW.out 3).trans rfl)
  have q4 : w2.cell? ⟨rb, 4, none⟩ = some (.int .i64 m1) := (HW2.out.cell (p := ⟨rb, 4, none⟩) hlt).trans ((Lib.cell_of_heap HROW.out 4).trans rfl)
  have q5 : w2.cell? ⟨rb, 5, none⟩ = some (.int .u8 k2) := (HW2.out.cell (p := ⟨rb, 5, none⟩) hlt).trans ((Lib.cell_of_heap HROW.out 5).trans rfl)
  have q6 : w2.cell? ⟨rb, 6, none⟩ = some (.string ⟨#[]⟩) := (HW2.out.cell (p := ⟨rb, 6, none⟩) hlt).trans ((Lib.cell_of_heap HROW.out 6).trans rfl)
  have q7 : w2.cell? ⟨rb, 7, none⟩ = some (.string tx2) := (HW2.out.cell (p := ⟨rb, 7, none⟩) hlt).trans ((Lib.cell_of_heap HROW.out 7).trans rfl)
  have q8 : w2.cell? ⟨rb, 8, none⟩ = some (.int .i64 n2) := (HW2.out.cell (p := ⟨rb, 8, none⟩) hlt).trans ((Lib.cell_of_heap HROW.out 8).trans rfl)
  have q9 : w2.cell? ⟨rb, 9, none⟩ = some (.int .i64 m2) := (HW2.out.cell (p := ⟨rb, 9, none⟩) hlt).trans ((Lib.cell_of_heap HROW.out 9).trans rfl)
  go_wp2_with fail
  go_ret
  exact ⟨rfl, by first | exact HW2.out | (go_grown; done)⟩
end Go.Proofs.YtjhgiojmlkeccaaGreatDoor
namespace Go.Proofs.YtjhgiojmlkeccaaGreatDoor
open Go.RowKit Go.Shelf
/-- Is a cell in one way? -/
def okP (rd : RdV) (ck : Int) (nm tx : ByteArray) (n m : Int) : Prop := plainR rd ck tx n m = (ck, tx, n, true) ∧ nm = ⟨#[]⟩ ∧ m = 0
instance (rd : RdV) (ck : Int) (nm tx : ByteArray) (n m : Int) : Decidable (okP rd ck nm tx n m) := by unfold okP; exact inferInstance
theorem toL_inj {a b : ByteArray} (h : a.toList = b.toList) : a = b := by
  rw [ByteArray.toList_eq, ByteArray.toList_eq] at h
  have := Array.toList_inj.1 h
  cases a; cases b; simp_all
theorem toL_ne {a b : ByteArray} (h : a ≠ b) : (a.toList == b.toList) = false := by
  refine Bool.eq_false_iff.2 fun hb => h (toL_inj (by simpa using hb))
theorem nil_toL {a : ByteArray} (h : a ≠ ⟨#[]⟩) : ¬ a.toList = [] := fun he => h (toL_inj (by rw [he, ByteArray.toList_eq]))
theorem askedK_2 (g : Nat) (cap : Array Value) (c a : Value) (l : Bool) (rd : RdV) (k1 : Int) (nm1 tx1 : ByteArray) (n1 m1 : Int) (k2 : Int) (nm2 tx2 : ByteArray) (n2 m2 : Int) (hk1 : 0 ≤ k1 ∧ k1 ≤ 255) (ht1 : tx1.size ≤ 1000000) (hn1 : R n1) (hm1 : R m1) (hk2 : 0 ≤ k2 ∧ k2 ≤ 255) (ht2 : tx2.size ≤ 1000000) (hn2 : R n2) (hm2 : R m2) (rb : Nat) (w : World) (HP : PlC w g cap c a l rd) (HROW : Hid (w.heap[rb]? = some (.cells #[.int .u8 k1, .string nm1, .string tx1, .int .i64 n1, .int .i64 m1, .int .u8 k2, .string nm2, .string tx2, .int .i64 n2, .int .i64 m2] 23 (0, 0)))) :
    Calls Tryz.prog 17 #[.agg #[.func (.func g) #[] cap, c, a, .bool l], .bool true, .slice (some ⟨rb, 0, none⟩) 2 2] w fun e w' => e = .returned (.int .i64 (if okP rd k1 nm1 tx1 n1 m1 ∧ okP rd k2 nm2 tx2 n2 m2 then 0 else 160)) ∧ Below w.heap.size w w' := by
  have H1 := HP k1 nm1 tx1 n1 m1 hk1.1 hk1.2 ht1 hn1 hm1
  obtain ⟨⟨yk1, yt1, yn1, yb1⟩, hy1⟩ : ∃ y, plainR rd k1 tx1 n1 m1 = y := ⟨_, rfl⟩
  rw [hy1] at H1
  dsimp only at H1
  have hok1 : okP rd k1 nm1 tx1 n1 m1 ↔ (yk1, yt1, yn1, yb1) = (k1, tx1, n1, true) ∧ nm1 = ⟨#[]⟩ ∧ m1 = 0 := by unfold okP; rw [hy1]
  cases yb1 with
  | false =>
    rw [if_neg (fun h => by have := (hok1.1 h.1).1; simp at this)]
    exact asked_2_bad1_x g cap c a l k1 nm1 tx1 n1 m1 k2 nm2 tx2 n2 m2 yk1 yt1 yn1 rb w HROW (Lib.hid H1)
  | true =>
    by_cases e0_1 : yk1 = k1
    case neg =>
      rw [if_neg (fun h => by have := (hok1.1 h.1).1; simp at this; exact e0_1 this.1)]
      exact asked_2_bad1_0 g cap c a l k1 nm1 tx1 n1 m1 k2 nm2 tx2 n2 m2 yk1 yt1 yn1 rb w (by simpa using e0_1) HROW (Lib.hid H1)
    case pos =>
      subst e0_1
      by_cases e1_1 : nm1 = ⟨#[]⟩
      case neg =>
        rw [if_neg (fun h => e1_1 (hok1.1 h.1).2.1)]
        exact asked_2_bad1_1 g cap c a l yk1 nm1 tx1 n1 m1 k2 nm2 tx2 n2 m2 yt1 yn1 rb w (by simpa using nil_toL e1_1) (nil_toL e1_1) (fun h => nil_toL e1_1 h.symm) HROW (Lib.hid H1)
      case pos =>
        subst e1_1
        by_cases e2_1 : yt1 = tx1
        case neg =>
          rw [if_neg (fun h => by have := (hok1.1 h.1).1; simp at this; exact e2_1 this.1)]
          exact asked_2_bad1_2 g cap c a l yk1 tx1 n1 m1 k2 nm2 tx2 n2 m2 yt1 yn1 rb w (toL_ne e2_1) HROW (Lib.hid H1)
        case pos =>
          subst e2_1
          by_cases e3_1 : yn1 = n1
          case neg =>
            rw [if_neg (fun h => by have := (hok1.1 h.1).1; simp at this; exact e3_1 this)]
            exact asked_2_bad1_3 g cap c a l yk1 yt1 n1 m1 k2 nm2 tx2 n2 m2 yn1 rb w (by simpa using e3_1) HROW (Lib.hid H1)
          case pos =>
            subst e3_1
            by_cases e4_1 : m1 = 0
            case neg =>
              rw [if_neg (fun h => e4_1 (hok1.1 h.1).2.2)]
              exact asked_2_bad1_4 g cap c a l yk1 yt1 yn1 m1 k2 nm2 tx2 n2 m2 rb w (by simp; exact fun h => e4_1 h.symm) HROW (Lib.hid H1)
            case pos =>
              subst e4_1
              have ho1 : okP rd yk1 ⟨#[]⟩ yt1 yn1 0 := hok1.2 ⟨rfl, rfl, rfl⟩
              have H2 := HP k2 nm2 tx2 n2 m2 hk2.1 hk2.2 ht2 hn2 hm2
              obtain ⟨⟨yk2, yt2, yn2, yb2⟩, hy2⟩ : ∃ y, plainR rd k2 tx2 n2 m2 = y := ⟨_, rfl⟩
              rw [hy2] at H2
              dsimp only at H2
              have hok2 : okP rd k2 nm2 tx2 n2 m2 ↔ (yk2, yt2, yn2, yb2) = (k2, tx2, n2, true) ∧ nm2 = ⟨#[]⟩ ∧ m2 = 0 := by unfold okP; rw [hy2]
              cases yb2 with
              | false =>
                rw [if_neg (fun h => by have := (hok2.1 h.2).1; simp at this)]
                exact asked_2_bad2_x g cap c a l yk1 ⟨#[]⟩ yt1 yn1 0 k2 nm2 tx2 n2 m2 yk2 yt2 yn2 rb w HROW (Lib.hid H1) (Lib.hid H2)
              | true =>
                by_cases e0_2 : yk2 = k2
                case neg =>
                  rw [if_neg (fun h => by have := (hok2.1 h.2).1; simp at this; exact e0_2 this.1)]
                  exact asked_2_bad2_0 g cap c a l yk1 ⟨#[]⟩ yt1 yn1 0 k2 nm2 tx2 n2 m2 yk2 yt2 yn2 rb w (by simpa using e0_2) HROW (Lib.hid H1) (Lib.hid H2)
                case pos =>
                  subst e0_2
                  by_cases e1_2 : nm2 = ⟨#[]⟩
                  case neg =>
                    rw [if_neg (fun h => e1_2 (hok2.1 h.2).2.1)]
                    exact asked_2_bad2_1 g cap c a l yk1 ⟨#[]⟩ yt1 yn1 0 yk2 nm2 tx2 n2 m2 yt2 yn2 rb w (by simpa using nil_toL e1_2) (nil_toL e1_2) (fun h => nil_toL e1_2 h.symm) HROW (Lib.hid H1) (Lib.hid H2)
                  case pos =>
                    subst e1_2
                    by_cases e2_2 : yt2 = tx2
                    case neg =>
                      rw [if_neg (fun h => by have := (hok2.1 h.2).1; simp at this; exact e2_2 this.1)]
                      exact asked_2_bad2_2 g cap c a l yk1 ⟨#[]⟩ yt1 yn1 0 yk2 tx2 n2 m2 yt2 yn2 rb w (toL_ne e2_2) HROW (Lib.hid H1) (Lib.hid H2)
                    case pos =>
                      subst e2_2
                      by_cases e3_2 : yn2 = n2
                      case neg =>
                        rw [if_neg (fun h => by have := (hok2.1 h.2).1; simp at this; exact e3_2 this)]
                        exact asked_2_bad2_3 g cap c a l yk1 ⟨#[]⟩ yt1 yn1 0 yk2 yt2 n2 m2 yn2 rb w (by simpa using e3_2) HROW (Lib.hid H1) (Lib.hid H2)
                      case pos =>
                        subst e3_2
                        by_cases e4_2 : m2 = 0
                        case neg =>
                          rw [if_neg (fun h => e4_2 (hok2.1 h.2).2.2)]
                          exact asked_2_bad2_4 g cap c a l yk1 ⟨#[]⟩ yt1 yn1 0 yk2 yt2 yn2 m2 rb w (by simp; exact fun h => e4_2 h.symm) HROW (Lib.hid H1) (Lib.hid H2)
                        case pos =>
                          subst e4_2
                          have ho2 : okP rd yk2 ⟨#[]⟩ yt2 yn2 0 := hok2.2 ⟨rfl, rfl, rfl⟩
                          rw [if_pos ⟨ho1, ho2⟩]
                          exact asked_2 g cap c a l _ _ _ _ _ _ _ _ _ _ rb w HROW (Lib.hid H1) (Lib.hid H2)
end Go.Proofs.YtjhgiojmlkeccaaGreatDoor
namespace Go.Proofs.YtjhgiojmlkeccaaGreatDoor
open Go.RowKit Go.Shelf
theorem PlC.below {w w' : World} {g : Nat} {cap : Array Value} {c a : Value} {l : Bool} {rd : RdV} (h : PlC w g cap c a l rd) (hb : Below w.heap.size w w') : PlC w' g cap c a l rd := fun ck nm tx n m h0 h1 h2 h3 h4 => (h ck nm tx n m h0 h1 h2 h3 h4).below hb
set_option maxRecDepth 100000 in
set_option maxHeartbeats 4000000 in
theorem scompare_bad (k : Int) (k1 : Int) (nm1 tx1 : ByteArray) (n1 m1 : Int) (k2 : Int) (nm2 tx2 : ByteArray) (n2 m2 : Int) (rd : RdV) (w : World) (HNOK : Hid (¬ (okP rd k1 nm1 tx1 n1 m1 ∧ okP rd k2 nm2 tx2 n2 m2))) (BD1 : Hid ((0 ≤ k1 ∧ k1 ≤ 255) ∧ tx1.size ≤ 1000000 ∧ R n1 ∧ R m1)) (BD2 : Hid ((0 ≤ k2 ∧ k2 ≤ 255) ∧ tx2.size ≤ 1000000 ∧ R n2 ∧ R m2))
    (HO : Hid (∀ W, Below w.heap.size w W → Calls Tryz.prog 15 #[.int .u8 k] W fun e w' => (∃ (g : Nat) (cap : Array Value) (gc : Nat) (a : Value) (l : Bool), e = .returned (.tuple #[.agg #[.func (.func g) #[] cap, .func (.func gc) #[] #[], a, .bool l], .int .i64 0]) ∧ Hid (a.oneCell' = true) ∧ Hid (PlC w' g cap (.func (.func gc) #[] #[]) a l rd)) ∧ Below W.heap.size W w')) :
    Calls Tryz.prog 10 #[.int .u8 k, .agg #[.int .u8 k1, .string nm1, .string tx1, .int .i64 n1, .int .i64 m1], .agg #[.int .u8 k2, .string nm2, .string tx2, .int .i64 n2, .int .i64 m2]] w fun e w' => e = .returned (.tuple #[.int .i64 0, .int .i64 160]) ∧ Below w.heap.size w w' := by
  go_enter Tryz.func10, Tryz.ntmps10
  go_wp2_with fail
  refine (HO.out _ (by first | exact Below.refl _ _ | (go_grown; done))).mono ?_; rintro e w1 ⟨⟨g, cap, gc, a, l, rfl, HC, HQ⟩, hb⟩
  have hh0 : w1.heap[w.heap.size]? = some (.cells #[.int .u8 k1, .string nm1, .string tx1, .int .i64 n1, .int .i64 m1] 23 (0, 0)) := (hb.block _ (by first | omega | (simp; done) | (simp; omega))).trans (heap_old (o' := (.cells #[.int .u8 k2, .string nm2, .string tx2, .int .i64 n2, .int .i64 m2] 23 (0, 0))) (heap_new _ _ _ (by first | rfl | simp)))
  have hh1 : w1.heap[w.heap.size + 1]? = some (.cells #[.int .u8 k2, .string nm2, .string tx2, .int .i64 n2, .int .i64 m2] 23 (0, 0)) := (hb.block _ (by first | omega | (simp; done) | (simp; omega))).trans (heap_new _ _ _ (by first | rfl | simp))
  have hbw1 : Below w.heap.size w w1 := (show Below w.heap.size w _ by first | exact Below.refl _ _ | (go_grown; done)).trans (hb.mono (by first | omega | (simp; done) | (simp; omega)))
  clear hb
  have HH0_1 := Lib.hid hh0
  have lt0 := heap_lt hh0
  have c0_0 : w1.cell? ⟨w.heap.size, 0, none⟩ = some (.int .u8 k1) := by rw [Lib.cell_of_heap hh0]; rfl
  have c0_1 : w1.cell? ⟨w.heap.size, 1, none⟩ = some (.string nm1) := by rw [Lib.cell_of_heap hh0]; rfl
  have c0_2 : w1.cell? ⟨w.heap.size, 2, none⟩ = some (.string tx1) := by rw [Lib.cell_of_heap hh0]; rfl
  have c0_3 : w1.cell? ⟨w.heap.size, 3, none⟩ = some (.int .i64 n1) := by rw [Lib.cell_of_heap hh0]; rfl
  have c0_4 : w1.cell? ⟨w.heap.size, 4, none⟩ = some (.int .i64 m1) := by rw [Lib.cell_of_heap hh0]; rfl
  clear hh0
  have HH1_1 := Lib.hid hh1
  have lt1 := heap_lt hh1
  have c1_0 : w1.cell? ⟨w.heap.size + 1, 0, none⟩ = some (.int .u8 k2) := by rw [Lib.cell_of_heap hh1]; rfl
  have c1_1 : w1.cell? ⟨w.heap.size + 1, 1, none⟩ = some (.string nm2) := by rw [Lib.cell_of_heap hh1]; rfl
  have c1_2 : w1.cell? ⟨w.heap.size + 1, 2, none⟩ = some (.string tx2) := by rw [Lib.cell_of_heap hh1]; rfl
  have c1_3 : w1.cell? ⟨w.heap.size + 1, 3, none⟩ = some (.int .i64 n2) := by rw [Lib.cell_of_heap hh1]; rfl
  have c1_4 : w1.cell? ⟨w.heap.size + 1, 4, none⟩ = some (.int .i64 m2) := by rw [Lib.cell_of_heap hh1]; rfl
  clear hh1
  have sz1 := hbw1.size
  have HW1 := Lib.hid hbw1
  have hne := fun w => fun_cmp w gc
  have hst0 := (fun W b x hc hz => st_one Tryz.prog (.func (.func g) #[] cap) rfl W b x hc hz)
  have hst1 := (fun W b x hc hz => st_one Tryz.prog (.func (.func gc) #[] #[]) rfl W b x hc hz)
  have hst2 := (fun W b x hc hz => st_one Tryz.prog (a) HC.out W b x hc hz)
  go_wp2_with fail
  refine (((askedK_2 g cap (.func (.func gc) #[] #[]) (a) (l) rd k1 nm1 tx1 n1 m1 k2 nm2 tx2 n2 m2 BD1.out.1 BD1.out.2.1 BD1.out.2.2.1 BD1.out.2.2.2 BD2.out.1 BD2.out.2.1 BD2.out.2.2.1 BD2.out.2.2.2 _ _ (HQ.out.below (by first | exact Below.refl _ _ | (go_grown; done))) (Lib.hid (heap_new _ _ _ (by first | rfl | simp)))).mono (fun e w' h => (⟨h.1.trans (by rw [if_neg HNOK.out]), h.2⟩ : e = .returned (.int .i64 160) ∧ _)))).mono ?_; rintro e w2 ⟨rfl, hb⟩
  have hv0 := heap_old (o' := (.cells #[.int .u8 k1, .string nm1, .string tx1, .int .i64 n1, .int .i64 m1, .int .u8 k2, .string nm2, .string tx2, .int .i64 n2, .int .i64 m2] 23 (0, 0))) (heap_old (o' := (.cells #[.func (.func g) #[] cap, .func (.func gc) #[] #[], a, .bool l] 41 (0, 0))) (HH0_1.out))
  have hh0 : w2.heap[w.heap.size]? = some (.cells #[.int .u8 k1, .string nm1, .string tx1, .int .i64 n1, .int .i64 m1] 23 (0, 0)) := (hb.block _ (heap_lt hv0)).trans hv0
  clear hv0
  have hv1 := heap_old (o' := (.cells #[.int .u8 k1, .string nm1, .string tx1, .int .i64 n1, .int .i64 m1, .int .u8 k2, .string nm2, .string tx2, .int .i64 n2, .int .i64 m2] 23 (0, 0))) (heap_old (o' := (.cells #[.func (.func g) #[] cap, .func (.func gc) #[] #[], a, .bool l] 41 (0, 0))) (HH1_1.out))
  have hh1 : w2.heap[w.heap.size + 1]? = some (.cells #[.int .u8 k2, .string nm2, .string tx2, .int .i64 n2, .int .i64 m2] 23 (0, 0)) := (hb.block _ (heap_lt hv1)).trans hv1
  clear hv1
  have hh2 : w2.heap[w1.heap.size]? = some (.cells #[.func (.func g) #[] cap, .func (.func gc) #[] #[], a, .bool l] 41 (0, 0)) := (hb.block _ (by first | omega | (simp; done) | (simp; omega))).trans (heap_old (o' := (.cells #[.int .u8 k1, .string nm1, .string tx1, .int .i64 n1, .int .i64 m1, .int .u8 k2, .string nm2, .string tx2, .int .i64 n2, .int .i64 m2] 23 (0, 0))) (heap_new _ _ _ (by first | rfl | simp)))
  have hh3 : w2.heap[w1.heap.size + 1]? = some (.cells #[.int .u8 k1, .string nm1, .string tx1, .int .i64 n1, .int .i64 m1, .int .u8 k2, .string nm2, .string tx2, .int .i64 n2, .int .i64 m2] 23 (0, 0)) := (hb.block _ (by first | omega | (simp; done) | (simp; omega))).trans (heap_new _ _ _ (by first | rfl | simp))
  have hbw2 : Below w.heap.size w w2 := (show Below w.heap.size w _ by first | exact HW1.out.trans ⟨rfl, rfl, rfl, Nat.le_refl _, fun _ _ => rfl⟩ | exact HW1.out | (go_grown; done)).trans (hb.mono (by first | omega | (simp; done) | (simp; omega)))
  clear hb lt0 c0_0 c0_1 c0_2 c0_3 c0_4 lt1 c1_0 c1_1 c1_2 c1_3 c1_4 hbw1
  have HH0_2 := Lib.hid hh0
  have lt0 := heap_lt hh0
  have c0_0 : w2.cell? ⟨w.heap.size, 0, none⟩ = some (.int .u8 k1) := by rw [Lib.cell_of_heap hh0]; rfl
  have c0_1 : w2.cell? ⟨w.heap.size, 1, none⟩ = some (.string nm1) := by rw [Lib.cell_of_heap hh0]; rfl
  have c0_2 : w2.cell? ⟨w.heap.size, 2, none⟩ = some (.string tx1) := by rw [Lib.cell_of_heap hh0]; rfl
  have c0_3 : w2.cell? ⟨w.heap.size, 3, none⟩ = some (.int .i64 n1) := by rw [Lib.cell_of_heap hh0]; rfl
  have c0_4 : w2.cell? ⟨w.heap.size, 4, none⟩ = some (.int .i64 m1) := by rw [Lib.cell_of_heap hh0]; rfl
  clear hh0
  have HH1_2 := Lib.hid hh1
  have lt1 := heap_lt hh1
  have c1_0 : w2.cell? ⟨w.heap.size + 1, 0, none⟩ = some (.int .u8 k2) := by rw [Lib.cell_of_heap hh1]; rfl
  have c1_1 : w2.cell? ⟨w.heap.size + 1, 1, none⟩ = some (.string nm2) := by rw [Lib.cell_of_heap hh1]; rfl
  have c1_2 : w2.cell? ⟨w.heap.size + 1, 2, none⟩ = some (.string tx2) := by rw [Lib.cell_of_heap hh1]; rfl
  have c1_3 : w2.cell? ⟨w.heap.size + 1, 3, none⟩ = some (.int .i64 n2) := by rw [Lib.cell_of_heap hh1]; rfl
  have c1_4 : w2.cell? ⟨w.heap.size + 1, 4, none⟩ = some (.int .i64 m2) := by rw [Lib.cell_of_heap hh1]; rfl
  clear hh1
  have HH2_2 := Lib.hid hh2
  have lt2 := heap_lt hh2
  have c2_0 : w2.cell? ⟨w1.heap.size, 0, none⟩ = some (.func (.func g) #[] cap) := by rw [Lib.cell_of_heap hh2]; rfl
  have c2_1 : w2.cell? ⟨w1.heap.size, 1, none⟩ = some (.func (.func gc) #[] #[]) := by rw [Lib.cell_of_heap hh2]; rfl
  have c2_2 : w2.cell? ⟨w1.heap.size, 2, none⟩ = some (a) := by rw [Lib.cell_of_heap hh2]; rfl
  have c2_3 : w2.cell? ⟨w1.heap.size, 3, none⟩ = some (.bool l) := by rw [Lib.cell_of_heap hh2]; rfl
  clear hh2
  have HH3_2 := Lib.hid hh3
  have lt3 := heap_lt hh3
  have c3_0 : w2.cell? ⟨w1.heap.size + 1, 0, none⟩ = some (.int .u8 k1) := by rw [Lib.cell_of_heap hh3]; rfl
  have c3_1 : w2.cell? ⟨w1.heap.size + 1, 1, none⟩ = some (.string nm1) := by rw [Lib.cell_of_heap hh3]; rfl
  have c3_2 : w2.cell? ⟨w1.heap.size + 1, 2, none⟩ = some (.string tx1) := by rw [Lib.cell_of_heap hh3]; rfl
  have c3_3 : w2.cell? ⟨w1.heap.size + 1, 3, none⟩ = some (.int .i64 n1) := by rw [Lib.cell_of_heap hh3]; rfl
  have c3_4 : w2.cell? ⟨w1.heap.size + 1, 4, none⟩ = some (.int .i64 m1) := by rw [Lib.cell_of_heap hh3]; rfl
  have c3_5 : w2.cell? ⟨w1.heap.size + 1, 5, none⟩ = some (.int .u8 k2) := by rw [Lib.cell_of_heap hh3]; rfl
  have c3_6 : w2.cell? ⟨w1.heap.size + 1, 6, none⟩ = some (.string nm2) := by rw [Lib.cell_of_heap hh3]; rfl
  have c3_7 : w2.cell? ⟨w1.heap.size + 1, 7, none⟩ = some (.string tx2) := by rw [Lib.cell_of_heap hh3]; rfl
  have c3_8 : w2.cell? ⟨w1.heap.size + 1, 8, none⟩ = some (.int .i64 n2) := by rw [Lib.cell_of_heap hh3]; rfl
  have c3_9 : w2.cell? ⟨w1.heap.size + 1, 9, none⟩ = some (.int .i64 m2) := by rw [Lib.cell_of_heap hh3]; rfl
  clear hh3
  have sz2 := hbw2.size
  have HW2 := Lib.hid hbw2
  clear hst0 hst1 hst2 hne
  go_wp2_with fail
  go_ret2
  exact ⟨rfl, by first | exact HW2.out | (go_grown; done)⟩
set_option maxRecDepth 100000 in
set_option maxHeartbeats 4000000 in
theorem sadd_bad (k : Int) (k1 : Int) (nm1 tx1 : ByteArray) (n1 m1 : Int) (k2 : Int) (nm2 tx2 : ByteArray) (n2 m2 : Int) (rd : RdV) (w : World) (HNOK : Hid (¬ (okP rd k1 nm1 tx1 n1 m1 ∧ okP rd k2 nm2 tx2 n2 m2))) (BD1 : Hid ((0 ≤ k1 ∧ k1 ≤ 255) ∧ tx1.size ≤ 1000000 ∧ R n1 ∧ R m1)) (BD2 : Hid ((0 ≤ k2 ∧ k2 ≤ 255) ∧ tx2.size ≤ 1000000 ∧ R n2 ∧ R m2))
    (HO : Hid (∀ W, Below w.heap.size w W → Calls Tryz.prog 15 #[.int .u8 k] W fun e w' => (∃ (g : Nat) (cap : Array Value) (c : Value) (ga : Nat) (l : Bool), e = .returned (.tuple #[.agg #[.func (.func g) #[] cap, c, .func (.func ga) #[] #[], .bool l], .int .i64 0]) ∧ Hid (c.oneCell' = true) ∧ Hid (PlC w' g cap c (.func (.func ga) #[] #[]) l rd)) ∧ Below W.heap.size W w')) :
    Calls Tryz.prog 11 #[.int .u8 k, .agg #[.int .u8 k1, .string nm1, .string tx1, .int .i64 n1, .int .i64 m1], .agg #[.int .u8 k2, .string nm2, .string tx2, .int .i64 n2, .int .i64 m2]] w fun e w' => e = .returned (.tuple #[.agg #[.int .u8 0, .string ⟨#[]⟩, .string ⟨#[]⟩, .int .i64 0, .int .i64 0], .int .i64 160]) ∧ Below w.heap.size w w' := by
  go_enter Tryz.func11, Tryz.ntmps11
  go_wp2_with fail
  refine (HO.out _ (by first | exact Below.refl _ _ | (go_grown; done))).mono ?_; rintro e w1 ⟨⟨g, cap, c, ga, l, rfl, HC, HQ⟩, hb⟩
  have hh0 : w1.heap[w.heap.size]? = some (.cells #[.int .u8 k1, .string nm1, .string tx1, .int .i64 n1, .int .i64 m1] 23 (0, 0)) := (hb.block _ (by first | omega | (simp; done) | (simp; omega))).trans (heap_old (o' := (.cells #[.int .u8 0, .string ⟨#[]⟩, .string ⟨#[]⟩, .int .i64 0, .int .i64 0] 23 (0, 0))) (heap_old (o' := (.cells #[.int .u8 k2, .string nm2, .string tx2, .int .i64 n2, .int .i64 m2] 23 (0, 0))) (heap_new _ _ _ (by first | rfl | simp))))
  have hh1 : w1.heap[w.heap.size + 1]? = some (.cells #[.int .u8 k2, .string nm2, .string tx2, .int .i64 n2, .int .i64 m2] 23 (0, 0)) := (hb.block _ (by first | omega | (simp; done) | (simp; omega))).trans (heap_old (o' := (.cells #[.int .u8 0, .string ⟨#[]⟩, .string ⟨#[]⟩, .int .i64 0, .int .i64 0] 23 (0, 0))) (heap_new _ _ _ (by first | rfl | simp)))
  have hh2 : w1.heap[w.heap.size + 1 + 1]? = some (.cells #[.int .u8 0, .string ⟨#[]⟩, .string ⟨#[]⟩, .int .i64 0, .int .i64 0] 23 (0, 0)) := (hb.block _ (by first | omega | (simp; done) | (simp; omega))).trans (heap_new _ _ _ (by first | rfl | simp))
  have hbw1 : Below w.heap.size w w1 := (show Below w.heap.size w _ by first | exact Below.refl _ _ | (go_grown; done)).trans (hb.mono (by first | omega | (simp; done) | (simp; omega)))
  clear hb
  have HH0_1 := Lib.hid hh0
  have lt0 := heap_lt hh0
  have c0_0 : w1.cell? ⟨w.heap.size, 0, none⟩ = some (.int .u8 k1) := by rw [Lib.cell_of_heap hh0]; rfl
  have c0_1 : w1.cell? ⟨w.heap.size, 1, none⟩ = some (.string nm1) := by rw [Lib.cell_of_heap hh0]; rfl
  have c0_2 : w1.cell? ⟨w.heap.size, 2, none⟩ = some (.string tx1) := by rw [Lib.cell_of_heap hh0]; rfl
  have c0_3 : w1.cell? ⟨w.heap.size, 3, none⟩ = some (.int .i64 n1) := by rw [Lib.cell_of_heap hh0]; rfl
  have c0_4 : w1.cell? ⟨w.heap.size, 4, none⟩ = some (.int .i64 m1) := by rw [Lib.cell_of_heap hh0]; rfl
  clear hh0
  have HH1_1 := Lib.hid hh1
  have lt1 := heap_lt hh1
  have c1_0 : w1.cell? ⟨w.heap.size + 1, 0, none⟩ = some (.int .u8 k2) := by rw [Lib.cell_of_heap hh1]; rfl
  have c1_1 : w1.cell? ⟨w.heap.size + 1, 1, none⟩ = some (.string nm2) := by rw [Lib.cell_of_heap hh1]; rfl
  have c1_2 : w1.cell? ⟨w.heap.size + 1, 2, none⟩ = some (.string tx2) := by rw [Lib.cell_of_heap hh1]; rfl
  have c1_3 : w1.cell? ⟨w.heap.size + 1, 3, none⟩ = some (.int .i64 n2) := by rw [Lib.cell_of_heap hh1]; rfl
  have c1_4 : w1.cell? ⟨w.heap.size + 1, 4, none⟩ = some (.int .i64 m2) := by rw [Lib.cell_of_heap hh1]; rfl
  clear hh1
  have HH2_1 := Lib.hid hh2
  have lt2 := heap_lt hh2
  have c2_0 : w1.cell? ⟨w.heap.size + 1 + 1, 0, none⟩ = some (.int .u8 0) := by rw [Lib.cell_of_heap hh2]; rfl
  have f2_0 : w1.frozen? ⟨w.heap.size + 1 + 1, 0, none⟩ = false := Lib.frozen_of_heap hh2 0
  have c2_1 : w1.cell? ⟨w.heap.size + 1 + 1, 1, none⟩ = some (.string ⟨#[]⟩) := by rw [Lib.cell_of_heap hh2]; rfl
  have f2_1 : w1.frozen? ⟨w.heap.size + 1 + 1, 1, none⟩ = false := Lib.frozen_of_heap hh2 1
  have c2_2 : w1.cell? ⟨w.heap.size + 1 + 1, 2, none⟩ = some (.string ⟨#[]⟩) := by rw [Lib.cell_of_heap hh2]; rfl
  have f2_2 : w1.frozen? ⟨w.heap.size + 1 + 1, 2, none⟩ = false := Lib.frozen_of_heap hh2 2
  have c2_3 : w1.cell? ⟨w.heap.size + 1 + 1, 3, none⟩ = some (.int .i64 0) := by rw [Lib.cell_of_heap hh2]; rfl
  have f2_3 : w1.frozen? ⟨w.heap.size + 1 + 1, 3, none⟩ = false := Lib.frozen_of_heap hh2 3
  have c2_4 : w1.cell? ⟨w.heap.size + 1 + 1, 4, none⟩ = some (.int .i64 0) := by rw [Lib.cell_of_heap hh2]; rfl
  have f2_4 : w1.frozen? ⟨w.heap.size + 1 + 1, 4, none⟩ = false := Lib.frozen_of_heap hh2 4
  clear hh2
  have sz1 := hbw1.size
  have HW1 := Lib.hid hbw1
  have hne := fun w => fun_add w ga
  have hst0 := (fun W b x hc hz => st_one Tryz.prog (.func (.func g) #[] cap) rfl W b x hc hz)
  have hst1 := (fun W b x hc hz => st_one Tryz.prog (c) HC.out W b x hc hz)
  have hst2 := (fun W b x hc hz => st_one Tryz.prog (.func (.func ga) #[] #[]) rfl W b x hc hz)
  go_wp2_with fail
  refine (((askedK_2 g cap (c) (.func (.func ga) #[] #[]) (l) rd k1 nm1 tx1 n1 m1 k2 nm2 tx2 n2 m2 BD1.out.1 BD1.out.2.1 BD1.out.2.2.1 BD1.out.2.2.2 BD2.out.1 BD2.out.2.1 BD2.out.2.2.1 BD2.out.2.2.2 _ _ (HQ.out.below (by first | exact Below.refl _ _ | (go_grown; done))) (Lib.hid (heap_new _ _ _ (by first | rfl | simp)))).mono (fun e w' h => (⟨h.1.trans (by rw [if_neg HNOK.out]), h.2⟩ : e = .returned (.int .i64 160) ∧ _)))).mono ?_; rintro e w2 ⟨rfl, hb⟩
  have hv0 := heap_old (o' := (.cells #[.int .u8 k1, .string nm1, .string tx1, .int .i64 n1, .int .i64 m1, .int .u8 k2, .string nm2, .string tx2, .int .i64 n2, .int .i64 m2] 23 (0, 0))) (heap_old (o' := (.cells #[.func (.func g) #[] cap, c, .func (.func ga) #[] #[], .bool l] 41 (0, 0))) (HH0_1.out))
  have hh0 : w2.heap[w.heap.size]? = some (.cells #[.int .u8 k1, .string nm1, .string tx1, .int .i64 n1, .int .i64 m1] 23 (0, 0)) := (hb.block _ (heap_lt hv0)).trans hv0
  clear hv0
  have hv1 := heap_old (o' := (.cells #[.int .u8 k1, .string nm1, .string tx1, .int .i64 n1, .int .i64 m1, .int .u8 k2, .string nm2, .string tx2, .int .i64 n2, .int .i64 m2] 23 (0, 0))) (heap_old (o' := (.cells #[.func (.func g) #[] cap, c, .func (.func ga) #[] #[], .bool l] 41 (0, 0))) (HH1_1.out))
  have hh1 : w2.heap[w.heap.size + 1]? = some (.cells #[.int .u8 k2, .string nm2, .string tx2, .int .i64 n2, .int .i64 m2] 23 (0, 0)) := (hb.block _ (heap_lt hv1)).trans hv1
  clear hv1
  have hv2 := heap_old (o' := (.cells #[.int .u8 k1, .string nm1, .string tx1, .int .i64 n1, .int .i64 m1, .int .u8 k2, .string nm2, .string tx2, .int .i64 n2, .int .i64 m2] 23 (0, 0))) (heap_old (o' := (.cells #[.func (.func g) #[] cap, c, .func (.func ga) #[] #[], .bool l] 41 (0, 0))) (HH2_1.out))
  have hh2 : w2.heap[w.heap.size + 1 + 1]? = some (.cells #[.int .u8 0, .string ⟨#[]⟩, .string ⟨#[]⟩, .int .i64 0, .int .i64 0] 23 (0, 0)) := (hb.block _ (heap_lt hv2)).trans hv2
  clear hv2
  have hh3 : w2.heap[w1.heap.size]? = some (.cells #[.func (.func g) #[] cap, c, .func (.func ga) #[] #[], .bool l] 41 (0, 0)) := (hb.block _ (by first | omega | (simp; done) | (simp; omega))).trans (heap_old (o' := (.cells #[.int .u8 k1, .string nm1, .string tx1, .int .i64 n1, .int .i64 m1, .int .u8 k2, .string nm2, .string tx2, .int .i64 n2, .int .i64 m2] 23 (0, 0))) (heap_new _ _ _ (by first | rfl | simp)))
  have hh4 : w2.heap[w1.heap.size + 1]? = some (.cells #[.int .u8 k1, .string nm1, .string tx1, .int .i64 n1, .int .i64 m1, .int .u8 k2, .string nm2, .string tx2, .int .i64 n2, .int .i64 m2] 23 (0, 0)) := (hb.block _ (by first | omega | (simp; done) | (simp; omega))).trans (heap_new _ _ _ (by first | rfl | simp))
  have hbw2 : Below w.heap.size w w2 := (show Below w.heap.size w _ by first | exact HW1.out.trans ⟨rfl, rfl, rfl, Nat.le_refl _, fun _ _ => rfl⟩ | exact HW1.out | (go_grown; done)).trans (hb.mono (by first | omega | (simp; done) | (simp; omega)))
  clear hb lt0 c0_0 c0_1 c0_2 c0_3 c0_4 lt1 c1_0 c1_1 c1_2 c1_3 c1_4 lt2 c2_0 f2_0 c2_1 f2_1 c2_2 f2_2 c2_3 f2_3 c2_4 f2_4 hbw1
  have HH0_2 := Lib.hid hh0
  have lt0 := heap_lt hh0
  have c0_0 : w2.cell? ⟨w.heap.size, 0, none⟩ = some (.int .u8 k1) := by rw [Lib.cell_of_heap hh0]; rfl
  have c0_1 : w2.cell? ⟨w.heap.size, 1, none⟩ = some (.string nm1) := by rw [Lib.cell_of_heap hh0]; rfl
  have c0_2 : w2.cell? ⟨w.heap.size, 2, none⟩ = some (.string tx1) := by rw [Lib.cell_of_heap hh0]; rfl
  have c0_3 : w2.cell? ⟨w.heap.size, 3, none⟩ = some (.int .i64 n1) := by rw [Lib.cell_of_heap hh0]; rfl
  have c0_4 : w2.cell? ⟨w.heap.size, 4, none⟩ = some (.int .i64 m1) := by rw [Lib.cell_of_heap hh0]; rfl
  clear hh0
  have HH1_2 := Lib.hid hh1
  have lt1 := heap_lt hh1
  have c1_0 : w2.cell? ⟨w.heap.size + 1, 0, none⟩ = some (.int .u8 k2) := by rw [Lib.cell_of_heap hh1]; rfl
  have c1_1 : w2.cell? ⟨w.heap.size + 1, 1, none⟩ = some (.string nm2) := by rw [Lib.cell_of_heap hh1]; rfl
  have c1_2 : w2.cell? ⟨w.heap.size + 1, 2, none⟩ = some (.string tx2) := by rw [Lib.cell_of_heap hh1]; rfl
  have c1_3 : w2.cell? ⟨w.heap.size + 1, 3, none⟩ = some (.int .i64 n2) := by rw [Lib.cell_of_heap hh1]; rfl
  have c1_4 : w2.cell? ⟨w.heap.size + 1, 4, none⟩ = some (.int .i64 m2) := by rw [Lib.cell_of_heap hh1]; rfl
  clear hh1
  have HH2_2 := Lib.hid hh2
  have lt2 := heap_lt hh2
  have c2_0 : w2.cell? ⟨w.heap.size + 1 + 1, 0, none⟩ = some (.int .u8 0) := by rw [Lib.cell_of_heap hh2]; rfl
  have f2_0 : w2.frozen? ⟨w.heap.size + 1 + 1, 0, none⟩ = false := Lib.frozen_of_heap hh2 0
  have c2_1 : w2.cell? ⟨w.heap.size + 1 + 1, 1, none⟩ = some (.string ⟨#[]⟩) := by rw [Lib.cell_of_heap hh2]; rfl
  have f2_1 : w2.frozen? ⟨w.heap.size + 1 + 1, 1, none⟩ = false := Lib.frozen_of_heap hh2 1
  have c2_2 : w2.cell? ⟨w.heap.size + 1 + 1, 2, none⟩ = some (.string ⟨#[]⟩) := by rw [Lib.cell_of_heap hh2]; rfl
  have f2_2 : w2.frozen? ⟨w.heap.size + 1 + 1, 2, none⟩ = false := Lib.frozen_of_heap hh2 2
  have c2_3 : w2.cell? ⟨w.heap.size + 1 + 1, 3, none⟩ = some (.int .i64 0) := by rw [Lib.cell_of_heap hh2]; rfl
  have f2_3 : w2.frozen? ⟨w.heap.size + 1 + 1, 3, none⟩ = false := Lib.frozen_of_heap hh2 3
  have c2_4 : w2.cell? ⟨w.heap.size + 1 + 1, 4, none⟩ = some (.int .i64 0) := by rw [Lib.cell_of_heap hh2]; rfl
  have f2_4 : w2.frozen? ⟨w.heap.size + 1 + 1, 4, none⟩ = false := Lib.frozen_of_heap hh2 4
  clear hh2
  have HH3_2 := Lib.hid hh3
  have lt3 := heap_lt hh3
  have c3_0 : w2.cell? ⟨w1.heap.size, 0, none⟩ = some (.func (.func g) #[] cap) := by rw [Lib.cell_of_heap hh3]; rfl
  have c3_1 : w2.cell? ⟨w1.heap.size, 1, none⟩ = some (c) := by rw [Lib.cell_of_heap hh3]; rfl
  have c3_2 : w2.cell? ⟨w1.heap.size, 2, none⟩ = some (.func (.func ga) #[] #[]) := by rw [Lib.cell_of_heap hh3]; rfl
  have c3_3 : w2.cell? ⟨w1.heap.size, 3, none⟩ = some (.bool l) := by rw [Lib.cell_of_heap hh3]; rfl
  clear hh3
  have HH4_2 := Lib.hid hh4
  have lt4 := heap_lt hh4
  have c4_0 : w2.cell? ⟨w1.heap.size + 1, 0, none⟩ = some (.int .u8 k1) := by rw [Lib.cell_of_heap hh4]; rfl
  have c4_1 : w2.cell? ⟨w1.heap.size + 1, 1, none⟩ = some (.string nm1) := by rw [Lib.cell_of_heap hh4]; rfl
  have c4_2 : w2.cell? ⟨w1.heap.size + 1, 2, none⟩ = some (.string tx1) := by rw [Lib.cell_of_heap hh4]; rfl
  have c4_3 : w2.cell? ⟨w1.heap.size + 1, 3, none⟩ = some (.int .i64 n1) := by rw [Lib.cell_of_heap hh4]; rfl
  have c4_4 : w2.cell? ⟨w1.heap.size + 1, 4, none⟩ = some (.int .i64 m1) := by rw [Lib.cell_of_heap hh4]; rfl
  have c4_5 : w2.cell? ⟨w1.heap.size + 1, 5, none⟩ = some (.int .u8 k2) := by rw [Lib.cell_of_heap hh4]; rfl
  have c4_6 : w2.cell? ⟨w1.heap.size + 1, 6, none⟩ = some (.string nm2) := by rw [Lib.cell_of_heap hh4]; rfl
  have c4_7 : w2.cell? ⟨w1.heap.size + 1, 7, none⟩ = some (.string tx2) := by rw [Lib.cell_of_heap hh4]; rfl
  have c4_8 : w2.cell? ⟨w1.heap.size + 1, 8, none⟩ = some (.int .i64 n2) := by rw [Lib.cell_of_heap hh4]; rfl
  have c4_9 : w2.cell? ⟨w1.heap.size + 1, 9, none⟩ = some (.int .i64 m2) := by rw [Lib.cell_of_heap hh4]; rfl
  clear hh4
  have sz2 := hbw2.size
  have HW2 := Lib.hid hbw2
  clear hst0 hst1 hst2 hne
  go_wp2_with fail
  refine bodyPost_ret (v := .tuple #[.agg #[.int .u8 0, .string ⟨#[]⟩, .string ⟨#[]⟩, .int .i64 0, .int .i64 0], .int .i64 160]) (by simp [results, Tryz.results11, go_sem, c2_0, f2_0, c2_1, f2_1, c2_2, f2_2, c2_3, f2_3, c2_4, f2_4]; try rfl) rfl ?_
  refine ⟨rfl, ?_⟩
  repeat' (first | with_reducible exact HW2.out | with_reducible refine Below.setCell ?_ ?_ _ | with_reducible refine Below.alloc ?_ ?_ _)
  all_goals (first | exact Nat.le_refl _ | (dsimp only; omega) | omega | (simp; done) | (simp; omega))
set_option maxRecDepth 100000 in
set_option maxHeartbeats 4000000 in
theorem scompare_arg (k : Int) (k1 : Int) (nm1 tx1 : ByteArray) (n1 m1 : Int) (k2 : Int) (nm2 tx2 : ByteArray) (n2 m2 : Int) (w : World)
    (HO : Hid (DoesU w 15 #[.int .u8 k] (.tuple #[.agg #[.nilFunc, .nilFunc, .nilFunc, .bool false], .int .i64 2]))) :
    Calls Tryz.prog 10 #[.int .u8 k, .agg #[.int .u8 k1, .string nm1, .string tx1, .int .i64 n1, .int .i64 m1], .agg #[.int .u8 k2, .string nm2, .string tx2, .int .i64 n2, .int .i64 m2]] w fun e w' => e = .returned (.tuple #[.int .i64 0, .int .i64 2]) ∧ Below w.heap.size w w' := by
  go_enter Tryz.func10, Tryz.ntmps10
  go_wp2_with fail
  refine (HO.out _ (by first | exact Below.refl _ _ | (go_grown; done))).mono ?_; rintro e w1 ⟨rfl, hb⟩
  have hh0 : w1.heap[w.heap.size]? = some (.cells #[.int .u8 k1, .string nm1, .string tx1, .int .i64 n1, .int .i64 m1] 23 (0, 0)) := (hb.block _ (by first | omega | (simp; done) | (simp; omega))).trans (heap_old (o' := (.cells #[.int .u8 k2, .string nm2, .string tx2, .int .i64 n2, .int .i64 m2] 23 (0, 0))) (heap_new _ _ _ (by first | rfl | simp)))
  have hh1 : w1.heap[w.heap.size + 1]? = some (.cells #[.int .u8 k2, .string nm2, .string tx2, .int .i64 n2, .int .i64 m2] 23 (0, 0)) := (hb.block _ (by first | omega | (simp; done) | (simp; omega))).trans (heap_new _ _ _ (by first | rfl | simp))
  have hbw1 : Below w.heap.size w w1 := (show Below w.heap.size w _ by first | exact Below.refl _ _ | (go_grown; done)).trans (hb.mono (by first | omega | (simp; done) | (simp; omega)))
  clear hb
  have HH0_1 := Lib.hid hh0
  have lt0 := heap_lt hh0
  have c0_0 : w1.cell? ⟨w.heap.size, 0, none⟩ = some (.int .u8 k1) := by rw [Lib.cell_of_heap hh0]; rfl
  have c0_1 : w1.cell? ⟨w.heap.size, 1, none⟩ = some (.string nm1) := by rw [Lib.cell_of_heap hh0]; rfl
  have c0_2 : w1.cell? ⟨w.heap.size, 2, none⟩ = some (.string tx1) := by rw [Lib.cell_of_heap hh0]; rfl
  have c0_3 : w1.cell? ⟨w.heap.size, 3, none⟩ = some (.int .i64 n1) := by rw [Lib.cell_of_heap hh0]; rfl
  have c0_4 : w1.cell? ⟨w.heap.size, 4, none⟩ = some (.int .i64 m1) := by rw [Lib.cell_of_heap hh0]; rfl
  clear hh0
  have HH1_1 := Lib.hid hh1
  have lt1 := heap_lt hh1
  have c1_0 : w1.cell? ⟨w.heap.size + 1, 0, none⟩ = some (.int .u8 k2) := by rw [Lib.cell_of_heap hh1]; rfl
  have c1_1 : w1.cell? ⟨w.heap.size + 1, 1, none⟩ = some (.string nm2) := by rw [Lib.cell_of_heap hh1]; rfl
  have c1_2 : w1.cell? ⟨w.heap.size + 1, 2, none⟩ = some (.string tx2) := by rw [Lib.cell_of_heap hh1]; rfl
  have c1_3 : w1.cell? ⟨w.heap.size + 1, 3, none⟩ = some (.int .i64 n2) := by rw [Lib.cell_of_heap hh1]; rfl
  have c1_4 : w1.cell? ⟨w.heap.size + 1, 4, none⟩ = some (.int .i64 m2) := by rw [Lib.cell_of_heap hh1]; rfl
  clear hh1
  have sz1 := hbw1.size
  have HW1 := Lib.hid hbw1
  have hsn := fun W a x hc hz => st_one Tryz.prog .nilFunc rfl W a x hc hz
  go_wp2_with fail
  go_ret2
  exact ⟨rfl, by first | exact HW1.out | (go_grown; done)⟩
set_option maxRecDepth 100000 in
set_option maxHeartbeats 4000000 in
theorem sadd_arg (k : Int) (k1 : Int) (nm1 tx1 : ByteArray) (n1 m1 : Int) (k2 : Int) (nm2 tx2 : ByteArray) (n2 m2 : Int) (w : World)
    (HO : Hid (DoesU w 15 #[.int .u8 k] (.tuple #[.agg #[.nilFunc, .nilFunc, .nilFunc, .bool false], .int .i64 2]))) :
    Calls Tryz.prog 11 #[.int .u8 k, .agg #[.int .u8 k1, .string nm1, .string tx1, .int .i64 n1, .int .i64 m1], .agg #[.int .u8 k2, .string nm2, .string tx2, .int .i64 n2, .int .i64 m2]] w fun e w' => e = .returned (.tuple #[.agg #[.int .u8 0, .string ⟨#[]⟩, .string ⟨#[]⟩, .int .i64 0, .int .i64 0], .int .i64 2]) ∧ Below w.heap.size w w' := by
  go_enter Tryz.func11, Tryz.ntmps11
  go_wp2_with fail
  refine (HO.out _ (by first | exact Below.refl _ _ | (go_grown; done))).mono ?_; rintro e w1 ⟨rfl, hb⟩
  have hh0 : w1.heap[w.heap.size]? = some (.cells #[.int .u8 k1, .string nm1, .string tx1, .int .i64 n1, .int .i64 m1] 23 (0, 0)) := (hb.block _ (by first | omega | (simp; done) | (simp; omega))).trans (heap_old (o' := (.cells #[.int .u8 0, .string ⟨#[]⟩, .string ⟨#[]⟩, .int .i64 0, .int .i64 0] 23 (0, 0))) (heap_old (o' := (.cells #[.int .u8 k2, .string nm2, .string tx2, .int .i64 n2, .int .i64 m2] 23 (0, 0))) (heap_new _ _ _ (by first | rfl | simp))))
  have hh1 : w1.heap[w.heap.size + 1]? = some (.cells #[.int .u8 k2, .string nm2, .string tx2, .int .i64 n2, .int .i64 m2] 23 (0, 0)) := (hb.block _ (by first | omega | (simp; done) | (simp; omega))).trans (heap_old (o' := (.cells #[.int .u8 0, .string ⟨#[]⟩, .string ⟨#[]⟩, .int .i64 0, .int .i64 0] 23 (0, 0))) (heap_new _ _ _ (by first | rfl | simp)))
  have hh2 : w1.heap[w.heap.size + 1 + 1]? = some (.cells #[.int .u8 0, .string ⟨#[]⟩, .string ⟨#[]⟩, .int .i64 0, .int .i64 0] 23 (0, 0)) := (hb.block _ (by first | omega | (simp; done) | (simp; omega))).trans (heap_new _ _ _ (by first | rfl | simp))
  have hbw1 : Below w.heap.size w w1 := (show Below w.heap.size w _ by first | exact Below.refl _ _ | (go_grown; done)).trans (hb.mono (by first | omega | (simp; done) | (simp; omega)))
  clear hb
  have HH0_1 := Lib.hid hh0
  have lt0 := heap_lt hh0
  have c0_0 : w1.cell? ⟨w.heap.size, 0, none⟩ = some (.int .u8 k1) := by rw [Lib.cell_of_heap hh0]; rfl
  have c0_1 : w1.cell? ⟨w.heap.size, 1, none⟩ = some (.string nm1) := by rw [Lib.cell_of_heap hh0]; rfl
  have c0_2 : w1.cell? ⟨w.heap.size, 2, none⟩ = some (.string tx1) := by rw [Lib.cell_of_heap hh0]; rfl
  have c0_3 : w1.cell? ⟨w.heap.size, 3, none⟩ = some (.int .i64 n1) := by rw [Lib.cell_of_heap hh0]; rfl
  have c0_4 : w1.cell? ⟨w.heap.size, 4, none⟩ = some (.int .i64 m1) := by rw [Lib.cell_of_heap hh0]; rfl
  clear hh0
  have HH1_1 := Lib.hid hh1
  have lt1 := heap_lt hh1
  have c1_0 : w1.cell? ⟨w.heap.size + 1, 0, none⟩ = some (.int .u8 k2) := by rw [Lib.cell_of_heap hh1]; rfl
  have c1_1 : w1.cell? ⟨w.heap.size + 1, 1, none⟩ = some (.string nm2) := by rw [Lib.cell_of_heap hh1]; rfl
  have c1_2 : w1.cell? ⟨w.heap.size + 1, 2, none⟩ = some (.string tx2) := by rw [Lib.cell_of_heap hh1]; rfl
  have c1_3 : w1.cell? ⟨w.heap.size + 1, 3, none⟩ = some (.int .i64 n2) := by rw [Lib.cell_of_heap hh1]; rfl
  have c1_4 : w1.cell? ⟨w.heap.size + 1, 4, none⟩ = some (.int .i64 m2) := by rw [Lib.cell_of_heap hh1]; rfl
  clear hh1
  have HH2_1 := Lib.hid hh2
  have lt2 := heap_lt hh2
  have c2_0 : w1.cell? ⟨w.heap.size + 1 + 1, 0, none⟩ = some (.int .u8 0) := by rw [Lib.cell_of_heap hh2]; rfl
  have f2_0 : w1.frozen? ⟨w.heap.size + 1 + 1, 0, none⟩ = false := Lib.frozen_of_heap hh2 0
  have c2_1 : w1.cell? ⟨w.heap.size + 1 + 1, 1, none⟩ = some (.string ⟨#[]⟩) := by rw [Lib.cell_of_heap hh2]; rfl
  have f2_1 : w1.frozen? ⟨w.heap.size + 1 + 1, 1, none⟩ = false := Lib.frozen_of_heap hh2 1
  have c2_2 : w1.cell? ⟨w.heap.size + 1 + 1, 2, none⟩ = some (.string ⟨#[]⟩) := by rw [Lib.cell_of_heap hh2]; rfl
  have f2_2 : w1.frozen? ⟨w.heap.size + 1 + 1, 2, none⟩ = false := Lib.frozen_of_heap hh2 2
  have c2_3 : w1.cell? ⟨w.heap.size + 1 + 1, 3, none⟩ = some (.int .i64 0) := by rw [Lib.cell_of_heap hh2]; rfl
  have f2_3 : w1.frozen? ⟨w.heap.size + 1 + 1, 3, none⟩ = false := Lib.frozen_of_heap hh2 3
  have c2_4 : w1.cell? ⟨w.heap.size + 1 + 1, 4, none⟩ = some (.int .i64 0) := by rw [Lib.cell_of_heap hh2]; rfl
  have f2_4 : w1.frozen? ⟨w.heap.size + 1 + 1, 4, none⟩ = false := Lib.frozen_of_heap hh2 4
  clear hh2
  have sz1 := hbw1.size
  have HW1 := Lib.hid hbw1
  have hsn := fun W a x hc hz => st_one Tryz.prog .nilFunc rfl W a x hc hz
  go_wp2_with fail
  refine bodyPost_ret (v := .tuple #[.agg #[.int .u8 0, .string ⟨#[]⟩, .string ⟨#[]⟩, .int .i64 0, .int .i64 0], .int .i64 2]) (by simp [results, Tryz.results11, go_sem, lt2, c2_0, f2_0, c2_1, f2_1, c2_2, f2_2, c2_3, f2_3, c2_4, f2_4]; try rfl) rfl ?_
  refine ⟨rfl, ?_⟩
  repeat' (first | with_reducible exact HW1.out | with_reducible refine Below.setCell ?_ ?_ _ | with_reducible refine Below.alloc ?_ ?_ _)
  all_goals (first | exact Nat.le_refl _ | (dsimp only; omega) | omega | (simp; done) | (simp; omega))
end Go.Proofs.YtjhgiojmlkeccaaGreatDoor
namespace Go.Proofs.YtjhgiojmlkeccaaGreatDoor
/-- The days ahead of a month, in years that begin with March. -/
def aheadD (m : Int) : Int := if m = 0 then 0 else if m = 1 then 31 else if m = 2 then 61 else if m = 3 then 92 else if m = 4 then 122 else if m = 5 then 153 else if m = 6 then 184 else if m = 7 then 214 else if m = 8 then 245 else if m = 9 then 275 else if m = 10 then 306 else 337
def monthD (n : Int) : Int := if 337 ≤ n then 11 else if 306 ≤ n then 10 else if 275 ≤ n then 9 else if 245 ≤ n then 8 else if 214 ≤ n then 7 else if 184 ≤ n then 6 else if 153 ≤ n then 5 else if 122 ≤ n then 4 else if 92 ≤ n then 3 else if 61 ≤ n then 2 else if 31 ≤ n then 1 else 0
def sinceD (y m d : Int) : Int :=
  if m < 3 then 365 * (y - 1) + (y - 1) / 4 - (y - 1) / 100 + (y - 1) / 400 + aheadD (m + 9) + d - 1
  else 365 * y + y / 4 - y / 100 + y / 400 + aheadD (m - 3) + d - 1
/-- The day of an era; its year in it; the day of that year. -/
def eraR (n : Int) : Int := n - n / 146097 * 146097
def eraY (r : Int) : Int := (r - r / 1460 + r / 36524 - r / 146096) / 365
def eraD (r : Int) : Int := r - (365 * eraY r + eraY r / 4 - eraY r / 100)
def dateY (n : Int) : Int := eraY (eraR n) + 400 * (n / 146097) + (if 12 < monthD (eraD (eraR n)) + 3 then 1 else 0)
def dateM (n : Int) : Int := if 12 < monthD (eraD (eraR n)) + 3 then monthD (eraD (eraR n)) + 3 - 12 else monthD (eraD (eraR n)) + 3
def dateDD (n : Int) : Int := eraD (eraR n) - aheadD (monthD (eraD (eraR n))) + 1
theorem eraR_bd (n : Int) : 0 ≤ eraR n ∧ eraR n ≤ 146096 := by unfold eraR; omega
theorem eraY_bd (r : Int) (h0 : 0 ≤ r) (h1 : r ≤ 146096) : 0 ≤ eraY r ∧ eraY r ≤ 399 := by unfold eraY; omega
theorem eraY_mono (r r' : Int) (h : r ≤ r') : eraY r ≤ eraY r' := by
  unfold eraY
  have e1 : r / 146096 = r / 36524 / 4 := by rw [Int.ediv_ediv_of_nonneg (by omega)]; rfl
  have e2 : r' / 146096 = r' / 36524 / 4 := by rw [Int.ediv_ediv_of_nonneg (by omega)]; rfl
  rw [e1, e2]
  have a : r - r / 1460 ≤ r' - r' / 1460 := by omega
  have b : r / 36524 ≤ r' / 36524 := Int.ediv_le_ediv (by omega) h
  have c : r / 36524 - r / 36524 / 4 ≤ r' / 36524 - r' / 36524 / 4 := by
    generalize r / 36524 = u at *
    generalize r' / 36524 = v at *
    omega
  generalize r / 36524 - r / 36524 / 4 = u at *
  omega
theorem era_tab : ∀ y : Nat, y < 400 → (0 < y → eraY (365 * (y : Int) + (y : Int) / 4 - (y : Int) / 100 - 1) < y) ∧ (y < 399 → (y : Int) < eraY (365 * ((y : Int) + 1) + ((y : Int) + 1) / 4 - ((y : Int) + 1) / 100)) := by decide +kernel
theorem eraD_bd (r : Int) (h0 : 0 ≤ r) (h1 : r ≤ 146096) : 0 ≤ eraD r ∧ eraD r ≤ 365 := by
  obtain ⟨y0, y1⟩ := eraY_bd r h0 h1
  obtain ⟨y, hy⟩ : ∃ y : Nat, eraY r = y := ⟨(eraY r).toNat, by omega⟩
  obtain ⟨t1, t2⟩ := era_tab y (by omega)
  unfold eraD
  have l1 : 365 * (y : Int) + (y : Int) / 4 - (y : Int) / 100 ≤ r := by
    refine Int.not_lt.1 fun h => ?_
    have h3 := eraY_mono r (365 * (y : Int) + (y : Int) / 4 - (y : Int) / 100 - 1) (by omega)
    by_cases hy0 : 0 < y
    · have := t1 hy0
      omega
    · omega
  rw [hy]
  by_cases h : y < 399
  · have l2 : r < 365 * ((y : Int) + 1) + ((y : Int) + 1) / 4 - ((y : Int) + 1) / 100 := by
      refine Int.not_le.1 fun h' => ?_
      have := eraY_mono (365 * ((y : Int) + 1) + ((y : Int) + 1) / 4 - ((y : Int) + 1) / 100) r h'
      have := t2 h
      omega
    omega
  · obtain rfl : y = 399 := by omega
    omega
theorem monthD_bd (n : Int) : 0 ≤ monthD n ∧ monthD n ≤ 11 := by
  unfold monthD
  repeat' split
  all_goals omega
theorem aheadD_bd (m : Int) : 0 ≤ aheadD m ∧ aheadD m ≤ 337 := by
  unfold aheadD
  repeat' split
  all_goals omega
theorem month_down (n m : Int) (h0 : 0 ≤ n) (h : monthD n ≤ m) (h1 : m ≤ 11) (ha : n < aheadD m) : monthD n ≤ m - 1 ∧ 1 ≤ m := by
  unfold monthD at *
  unfold aheadD at ha
  have hm : m = 0 ∨ m = 1 ∨ m = 2 ∨ m = 3 ∨ m = 4 ∨ m = 5 ∨ m = 6 ∨ m = 7 ∨ m = 8 ∨ m = 9 ∨ m = 10 ∨ m = 11 := by
    have := (monthD_bd n).1
    unfold monthD at this
    omega
  rcases hm with rfl | rfl | rfl | rfl | rfl | rfl | rfl | rfl | rfl | rfl | rfl | rfl <;> simp at ha h ⊢ <;> omega
theorem month_done (n m : Int) (h0 : 0 ≤ n) (h : monthD n ≤ m) (h1 : m ≤ 11) (ha : aheadD m ≤ n) : m = monthD n := by
  unfold monthD at *
  unfold aheadD at ha
  have hm : m = 0 ∨ m = 1 ∨ m = 2 ∨ m = 3 ∨ m = 4 ∨ m = 5 ∨ m = 6 ∨ m = 7 ∨ m = 8 ∨ m = 9 ∨ m = 10 ∨ m = 11 := by
    have := (monthD_bd n).1
    unfold monthD at this
    omega
  rcases hm with rfl | rfl | rfl | rfl | rfl | rfl | rfl | rfl | rfl | rfl | rfl | rfl <;> simp at ha h ⊢ <;> omega
/-- What is read of a text: so many digits between two bounds; a mark; a fraction: the value, what is left, whether it is bad. -/
def valU (l : List UInt8) : Int := l.foldl (fun n c => n * 10 + ((c.toNat : Int) - 48) % 256) 0
def dNum (many : Nat) (low high : Int) (s : List UInt8) (bad : Bool) : Int × List UInt8 × Bool :=
  if s.length < many then (low, s, true)
  else
    let b := bad || (s.take many).any (fun c => !isDig c) || decide (valU (s.take many) < low) || decide (high < valU (s.take many))
    (if b then low else valU (s.take many), s.drop many, b)
def dMark (marks : List UInt8) (s : List UInt8) (bad : Bool) : Nat × List UInt8 × Bool :=
  match s with
  | [] => (0, [], true)
  | c :: r => if marks.contains c then (c.toNat, r, bad) else (0, c :: r, true)
def dFrac (s : List UInt8) (bad : Bool) : Int × List UInt8 × Bool :=
  match s with
  | [] => (0, [], bad)
  | c :: r =>
    if c = 46 then
      let k := (r.takeWhile isDig).length
      if k < 1 ∨ 9 < k then (0, r, true)
      else ((dNum k 0 999999999 r bad).1 * 10 ^ (9 - k), (dNum k 0 999999999 r bad).2)
    else (0, c :: r, bad)
theorem valU_bd (l : List UInt8) : 0 ≤ valU l ∧ valU l ≤ 256 * 10 ^ l.length - 256 := by
  have key : ∀ (l : List UInt8) (n : Int) (k : Nat), 0 ≤ n → n ≤ 256 * 10 ^ k - 256 → 0 ≤ l.foldl (fun n c => n * 10 + ((c.toNat : Int) - 48) % 256) n ∧ l.foldl (fun n c => n * 10 + ((c.toNat : Int) - 48) % 256) n ≤ 256 * 10 ^ (k + l.length) - 256 := by
    intro l
    induction l with
    | nil => intro n k h0 h1; exact ⟨h0, h1⟩
    | cons c r ih =>
      intro n k h0 h1
      have h2 : (256 : Int) * 10 ^ (k + 1) - 256 = (256 * 10 ^ k - 256) * 10 + 2304 := by rw [Int.pow_succ]; omega
      have := ih (n * 10 + ((c.toNat : Int) - 48) % 256) (k + 1) (by omega) (by omega)
      rw [List.foldl_cons, List.length_cons]
      rw [show k + (r.length + 1) = k + 1 + r.length by omega]
      exact this
  have := key l 0 0 (by omega) (by omega)
  rw [Nat.zero_add] at this
  exact this
theorem dNum_bd (many : Nat) (low high : Int) (s : List UInt8) (bad : Bool) (hl : low ≤ high) : low ≤ (dNum many low high s bad).1 ∧ (dNum many low high s bad).1 ≤ high := by
  unfold dNum
  split
  · exact ⟨Int.le_refl _, hl⟩
  · dsimp only
    split
    · exact ⟨Int.le_refl _, hl⟩
    · rename_i h
      simp only [Bool.or_eq_true, not_or, decide_eq_true_eq, Bool.not_eq_true] at h
      omega
end Go.Proofs.YtjhgiojmlkeccaaGreatDoor
namespace Go.Proofs.YtjhgiojmlkeccaaGreatDoor
open Go.RowKit Go.Shelf
set_option maxRecDepth 100000 in
set_option maxHeartbeats 4000000 in
theorem ahead_0 (w : World) : Calls Tryz.prog 119 #[.int .i64 0] w fun e w' => e = .returned (.int .i64 0) ∧ w = w' := by
  have ix : ∀ w : World, (Instr.index 226 (.agg #[.int .i64 0, .int .i64 31, .int .i64 61, .int .i64 92, .int .i64 122, .int .i64 153, .int .i64 184, .int .i64 214, .int .i64 245, .int .i64 275, .int .i64 306, .int .i64 337]) (.int .i64 0)).run Tryz.prog w = .ok (.int .i64 0) w := fun w => by kernel_rfl
  go_enter Tryz.func119, Tryz.ntmps119
  go_wp2
  go_ret
  exact ⟨rfl, rfl⟩
set_option maxRecDepth 100000 in
set_option maxHeartbeats 4000000 in
theorem ahead_1 (w : World) : Calls Tryz.prog 119 #[.int .i64 1] w fun e w' => e = .returned (.int .i64 31) ∧ w = w' := by
  have ix : ∀ w : World, (Instr.index 226 (.agg #[.int .i64 0, .int .i64 31, .int .i64 61, .int .i64 92, .int .i64 122, .int .i64 153, .int .i64 184, .int .i64 214, .int .i64 245, .int .i64 275, .int .i64 306, .int .i64 337]) (.int .i64 1)).run Tryz.prog w = .ok (.int .i64 31) w := fun w => by kernel_rfl
  go_enter Tryz.func119, Tryz.ntmps119
  go_wp2
  go_ret
  exact ⟨rfl, rfl⟩
set_option maxRecDepth 100000 in
set_option maxHeartbeats 4000000 in
theorem ahead_2 (w : World) : Calls Tryz.prog 119 #[.int .i64 2] w fun e w' => e = .returned (.int .i64 61) ∧ w = w' := by
  have ix : ∀ w : World, (Instr.index 226 (.agg #[.int .i64 0, .int .i64 31, .int .i64 61, .int .i64 92, .int .i64 122, .int .i64 153, .int .i64 184, .int .i64 214, .int .i64 245, .int .i64 275, .int .i64 306, .int .i64 337]) (.int .i64 2)).run Tryz.prog w = .ok (.int .i64 61) w := fun w => by kernel_rfl
  go_enter Tryz.func119, Tryz.ntmps119
  go_wp2
  go_ret
  exact ⟨rfl, rfl⟩
set_option maxRecDepth 100000 in
set_option maxHeartbeats 4000000 in
theorem ahead_3 (w : World) : Calls Tryz.prog 119 #[.int .i64 3] w fun e w' => e = .returned (.int .i64 92) ∧ w = w' := by
  have ix : ∀ w : World, (Instr.index 226 (.agg #[.int .i64 0, .int .i64 31, .int .i64 61, .int .i64 92, .int .i64 122, .int .i64 153, .int .i64 184, .int .i64 214, .int .i64 245, .int .i64 275, .int .i64 306, .int .i64 337]) (.int .i64 3)).run Tryz.prog w = .ok (.int .i64 92) w := fun w => by kernel_rfl
  go_enter Tryz.func119, Tryz.ntmps119
  go_wp2
  go_ret
  exact ⟨rfl, rfl⟩
set_option maxRecDepth 100000 in
set_option maxHeartbeats 4000000 in
theorem ahead_4 (w : World) : Calls Tryz.prog 119 #[.int .i64 4] w fun e w' => e = .returned (.int .i64 122) ∧ w = w' := by
  have ix : ∀ w : World, (Instr.index 226 (.agg #[.int .i64 0, .int .i64 31, .int .i64 61, .int .i64 92, .int .i64 122, .int .i64 153, .int .i64 184, .int .i64 214, .int .i64 245, .int .i64 275, .int .i64 306, .int .i64 337]) (.int .i64 4)).run Tryz.prog w = .ok (.int .i64 122) w := fun w => by kernel_rfl
  go_enter Tryz.func119, Tryz.ntmps119
  go_wp2
  go_ret
  exact ⟨rfl, rfl⟩
set_option maxRecDepth 100000 in
set_option maxHeartbeats 4000000 in
theorem ahead_5 (w : World) : Calls Tryz.prog 119 #[.int .i64 5] w fun e w' => e = .returned (.int .i64 153) ∧ w = w' := by
  have ix : ∀ w : World, (Instr.index 226 (.agg #[.int .i64 0, .int .i64 31, .int .i64 61, .int .i64 92, .int .i64 122, .int .i64 153, .int .i64 184, .int .i64 214, .int .i64 245, .int .i64 275, .int .i64 306, .int .i64 337]) (.int .i64 5)).run Tryz.prog w = .ok (.int .i64 153) w := fun w => by kernel_rfl
  go_enter Tryz.func119, Tryz.ntmps119
  go_wp2
  go_ret
  exact ⟨rfl, rfl⟩
set_option maxRecDepth 100000 in
set_option maxHeartbeats 4000000 in
theorem ahead_6 (w : World) : Calls Tryz.prog 119 #[.int .i64 6] w fun e w' => e = .returned (.int .i64 184) ∧ w = w' := by
  have ix : ∀ w : World, (Instr.index 226 (.agg #[.int .i64 0, .int .i64 31, .int .i64 61, .int .i64 92, .int .i64 122, .int .i64 153, .int .i64 184, .int .i64 214, .int .i64 245, .int .i64 275, .int .i64 306, .int .i64 337]) (.int .i64 6)).run Tryz.prog w = .ok (.int .i64 184) w := fun w => by kernel_rfl
  go_enter Tryz.func119, Tryz.ntmps119
  go_wp2
  go_ret
  exact ⟨rfl, rfl⟩
set_option maxRecDepth 100000 in
set_option maxHeartbeats 4000000 in
theorem ahead_7 (w : World) : Calls Tryz.prog 119 #[.int .i64 7] w fun e w' => e = .returned (.int .i64 214) ∧ w = w' := by
  have ix : ∀ w : World, (Instr.index 226 (.agg #[.int .i64 0, .int .i64 31, .int .i64 61, .int .i64 92, .int .i64 122, .int .i64 153, .int .i64 184, .int .i64 214, .int .i64 245, .int .i64 275, .int .i64 306, .int .i64 337]) (.int .i64 7)).run Tryz.prog w = .ok (.int .i64 214) w := fun w => by kernel_rfl
  go_enter Tryz.func119, Tryz.ntmps119
  go_wp2
  go_ret
  exact ⟨rfl, rfl⟩
set_option maxRecDepth 100000 in
set_option maxHeartbeats 4000000 in
theorem ahead_8 (w : World) : Calls Tryz.prog 119 #[.int .i64 8] w fun e w' => e = .returned (.int .i64 245) ∧ w = w' := by
  have ix : ∀ w : World, (Instr.index 226 (.agg #[.int .i64 0, .int .i64 31, .int .i64 61, .int .i64 92, .int .i64 122, .int .i64 153, .int .i64 184, .int .i64 214, .int .i64 245, .int .i64 275, .int .i64 306, .int .i64 337]) (.int .i64 8)).run Tryz.prog w = .ok (.int .i64 245) w := fun w => by kernel_rfl
  go_enter Tryz.func119, Tryz.ntmps119
  go_wp2
  go_ret
  exact ⟨rfl, rfl⟩
set_option maxRecDepth 100000 in
set_option maxHeartbeats 4000000 in
theorem ahead_9 (w : World) : Calls Tryz.prog 119 #[.int .i64 9] w fun e w' => e = .returned (.int .i64 275) ∧ w = w' := by
  have ix : ∀ w : World, (Instr.index 226 (.agg #[.int .i64 0, .int .i64 31, .int .i64 61, .int .i64 92, .int .i64 122, .int .i64 153, .int .i64 184, .int .i64 214, .int .i64 245, .int .i64 275, .int .i64 306, .int .i64 337]) (.int .i64 9)).run Tryz.prog w = .ok (.int .i64 275) w := fun w => by kernel_rfl
  go_enter Tryz.func119, Tryz.ntmps119
  go_wp2
  go_ret
  exact ⟨rfl, rfl⟩
set_option maxRecDepth 100000 in
set_option maxHeartbeats 4000000 in
theorem ahead_10 (w : World) : Calls Tryz.prog 119 #[.int .i64 10] w fun e w' => e = .returned (.int .i64 306) ∧ w = w' := by
  have ix : ∀ w : World, (Instr.index 226 (.agg #[.int .i64 0, .int .i64 31, .int .i64 61, .int .i64 92, .int .i64 122, .int .i64 153, .int .i64 184, .int .i64 214, .int .i64 245, .int .i64 275, .int .i64 306, .int .i64 337]) (.int .i64 10)).run Tryz.prog w = .ok (.int .i64 306) w := fun w => by kernel_rfl
  go_enter Tryz.func119, Tryz.ntmps119
  go_wp2
  go_ret
  exact ⟨rfl, rfl⟩
set_option maxRecDepth 100000 in
set_option maxHeartbeats 4000000 in
theorem ahead_11 (w : World) : Calls Tryz.prog 119 #[.int .i64 11] w fun e w' => e = .returned (.int .i64 337) ∧ w = w' := by
  have ix : ∀ w : World, (Instr.index 226 (.agg #[.int .i64 0, .int .i64 31, .int .i64 61, .int .i64 92, .int .i64 122, .int .i64 153, .int .i64 184, .int .i64 214, .int .i64 245, .int .i64 275, .int .i64 306, .int .i64 337]) (.int .i64 11)).run Tryz.prog w = .ok (.int .i64 337) w := fun w => by kernel_rfl
  go_enter Tryz.func119, Tryz.ntmps119
  go_wp2
  go_ret
  exact ⟨rfl, rfl⟩
theorem ahead_any (m : Int) (h0 : 0 ≤ m) (h1 : m ≤ 11) (w : World) : Calls Tryz.prog 119 #[.int .i64 m] w fun e w' => e = .returned (.int .i64 (aheadD m)) ∧ w = w' := by
  have hm : m = 0 ∨ m = 1 ∨ m = 2 ∨ m = 3 ∨ m = 4 ∨ m = 5 ∨ m = 6 ∨ m = 7 ∨ m = 8 ∨ m = 9 ∨ m = 10 ∨ m = 11 := by omega
  rcases hm with rfl | rfl | rfl | rfl | rfl | rfl | rfl | rfl | rfl | rfl | rfl | rfl
  · exact ahead_0 w
  · exact ahead_1 w
  · exact ahead_2 w
  · exact ahead_3 w
  · exact ahead_4 w
  · exact ahead_5 w
  · exact ahead_6 w
  · exact ahead_7 w
  · exact ahead_8 w
  · exact ahead_9 w
  · exact ahead_10 w
  · exact ahead_11 w
set_option maxRecDepth 100000 in
set_option maxHeartbeats 4000000 in
theorem floor_pos (a b : Int) (h0 : 0 ≤ a) (h1 : a ≤ 1000000000) (hb : 1 ≤ b) (hb1 : b ≤ 1000000) (w : World) : Calls Tryz.prog 118 #[.int .i64 a, .int .i64 b] w fun e w' => e = .returned (.int .i64 (a / b)) ∧ w = w' := by
  have hq0 : 0 ≤ a / b := Int.ediv_nonneg h0 (by omega)
  have hq1 : a / b ≤ 1000000000 := by
    have := Int.ediv_le_self b h0
    omega
  have hr0 : 0 ≤ a % b := Int.emod_nonneg a (by omega)
  have hn : decide (a % b < 0) = false := by simpa using hr0
  have ht : a.tdiv b = a / b := Int.tdiv_eq_ediv_of_nonneg h0
  have hm : a.tmod b = a % b := Int.tmod_eq_emod_of_nonneg h0
  have hz : (b == 0) = false := by simp; omega
  go_enter Tryz.func118, Tryz.ntmps118
  go_wp2
  go_ret
  exact ⟨rfl, rfl⟩
set_option maxRecDepth 100000 in
set_option maxHeartbeats 4000000 in
theorem floor_neg (a b : Int) (h0 : a < 0) (h1 : -b < a) (hb : 1 ≤ b) (hb1 : b ≤ 1000000) (w : World) : Calls Tryz.prog 118 #[.int .i64 a, .int .i64 b] w fun e w' => e = .returned (.int .i64 (-1)) ∧ w = w' := by
  have ht : a.tdiv b = 0 := by
    have : a = -(-a) := by omega
    rw [this, Int.neg_tdiv, Int.tdiv_eq_ediv_of_nonneg (by omega), Int.ediv_eq_zero_of_lt (by omega) (by omega)]; rfl
  have hm : a.tmod b = a := by
    have := Int.tmod_add_mul_tdiv a b
    rw [ht] at this; simpa using this
  have hz : (b == 0) = false := by simp; omega
  have hn : decide (a < 0) = true := by simpa using h0
  go_enter Tryz.func118, Tryz.ntmps118
  go_wp2
  go_ret
  exact ⟨rfl, rfl⟩
theorem floor_any (a b : Int) (h1 : -b < a) (h2 : a ≤ 1000000000) (hb : 1 ≤ b) (hb1 : b ≤ 1000000) (w : World) : Calls Tryz.prog 118 #[.int .i64 a, .int .i64 b] w fun e w' => e = .returned (.int .i64 (a / b)) ∧ w = w' := by
  by_cases h : 0 ≤ a
  · exact floor_pos a b h h2 hb hb1 w
  · have e : a / b = -1 := by
      have h3 : a = (a + b) + b * (-1) := by omega
      rw [h3, Int.add_mul_ediv_left _ _ (by omega), Int.ediv_eq_zero_of_lt (by omega) (by omega)]; rfl
    rw [e]
    exact floor_neg a b (by omega) h1 hb hb1 w
set_option maxRecDepth 100000 in
set_option maxHeartbeats 4000000 in
theorem since_lo (y m d : Int) (hy0 : 0 ≤ y) (hy1 : y ≤ 9999) (hm0 : 1 ≤ m) (hm1 : m ≤ 12) (hd0 : 1 ≤ d) (hd1 : d ≤ 31) (hm : m < 3) (w : World) :
    Calls Tryz.prog 75 #[.int .i64 y, .int .i64 m, .int .i64 d] w fun e w' => e = .returned (.int .i64 (sinceD y m d)) ∧ w = w' := by
  have HR : Hid (365 * (y - 1) + (y - 1) / 4 - (y - 1) / 100 + (y - 1) / 400 + aheadD (m + 9) + d - 1 = sinceD y m d) := Lib.hid (by unfold sinceD; rw [if_pos hm])
  obtain ⟨a, ha⟩ : ∃ a, aheadD (m + 9) = a := ⟨_, rfl⟩
  have hab := aheadD_bd (m + 9)
  rw [ha] at hab HR
  have HA : Hid (∀ W, Calls Tryz.prog 119 #[.int .i64 (m + 9)] W fun e w' => e = .returned (.int .i64 a) ∧ W = w') := Lib.hid fun W => by have := ahead_any (m + 9) (by omega) (by omega) W; rw [ha] at this; exact this
  obtain ⟨q4, h4⟩ : ∃ q, (y - 1) / 4 = q := ⟨_, rfl⟩
  obtain ⟨q1, hq1⟩ : ∃ q, (y - 1) / 100 = q := ⟨_, rfl⟩
  obtain ⟨q0, hq0⟩ : ∃ q, (y - 1) / 400 = q := ⟨_, rfl⟩
  have H4 : Hid (∀ W, Calls Tryz.prog 118 #[.int .i64 (y - 1), .int .i64 4] W fun e w' => e = .returned (.int .i64 q4) ∧ W = w') := Lib.hid fun W => by have := floor_any (y - 1) 4 (by omega) (by omega) (by omega) (by omega) W; rw [h4] at this; exact this
  have H1 : Hid (∀ W, Calls Tryz.prog 118 #[.int .i64 (y - 1), .int .i64 100] W fun e w' => e = .returned (.int .i64 q1) ∧ W = w') := Lib.hid fun W => by have := floor_any (y - 1) 100 (by omega) (by omega) (by omega) (by omega) W; rw [hq1] at this; exact this
  have H0 : Hid (∀ W, Calls Tryz.prog 118 #[.int .i64 (y - 1), .int .i64 400] W fun e w' => e = .returned (.int .i64 q0) ∧ W = w') := Lib.hid fun W => by have := floor_any (y - 1) 400 (by omega) (by omega) (by omega) (by omega) W; rw [hq0] at this; exact this
  have b4 : -1 ≤ q4 ∧ q4 ≤ 2500 := by omega
  have b1 : -1 ≤ q1 ∧ q1 ≤ 2500 := by omega
  have b0 : -1 ≤ q0 ∧ q0 ≤ 2500 := by omega
  rw [h4, hq1, hq0] at HR
  obtain ⟨s, hs⟩ : ∃ s, sinceD y m d = s := ⟨_, rfl⟩
  rw [hs] at HR ⊢
  obtain ⟨b40, b41⟩ := b4; obtain ⟨b10, b11⟩ := b1; obtain ⟨b00, b01⟩ := b0; obtain ⟨ha0, ha1⟩ := hab
  have ht : decide (m - 3 < 0) = true := by simp; omega
  have hw1 : m - 3 + 12 = m + 9 := by omega
  clear hs h4 hq1 hq0 ha hm
  go_enter Tryz.func75, Tryz.ntmps75
  go_wp2_with fail
  refine (H4.out _).mono ?_; rintro e w1 ⟨rfl, rfl⟩
  go_wp2_with fail
  refine (H1.out _).mono ?_; rintro e w1 ⟨rfl, rfl⟩
  go_wp2_with fail
  refine (H0.out _).mono ?_; rintro e w1 ⟨rfl, rfl⟩
  go_wp2_with fail
  refine (HA.out _).mono ?_; rintro e w1 ⟨rfl, rfl⟩
  go_wp2_with fail
  go_ret
  exact ⟨ret_i HR.out, rfl⟩
set_option maxRecDepth 100000 in
set_option maxHeartbeats 4000000 in
theorem since_hi (y m d : Int) (hy0 : 0 ≤ y) (hy1 : y ≤ 9999) (hm0 : 1 ≤ m) (hm1 : m ≤ 12) (hd0 : 1 ≤ d) (hd1 : d ≤ 31) (hm : ¬ m < 3) (w : World) :
    Calls Tryz.prog 75 #[.int .i64 y, .int .i64 m, .int .i64 d] w fun e w' => e = .returned (.int .i64 (sinceD y m d)) ∧ w = w' := by
  have HR : Hid (365 * y + y / 4 - y / 100 + y / 400 + aheadD (m - 3) + d - 1 = sinceD y m d) := Lib.hid (by unfold sinceD; rw [if_neg hm])
  obtain ⟨a, ha⟩ : ∃ a, aheadD (m - 3) = a := ⟨_, rfl⟩
  have hab := aheadD_bd (m - 3)
  rw [ha] at hab HR
  have HA : Hid (∀ W, Calls Tryz.prog 119 #[.int .i64 (m - 3)] W fun e w' => e = .returned (.int .i64 a) ∧ W = w') := Lib.hid fun W => by have := ahead_any (m - 3) (by omega) (by omega) W; rw [ha] at this; exact this
  obtain ⟨q4, h4⟩ : ∃ q, y / 4 = q := ⟨_, rfl⟩
  obtain ⟨q1, hq1⟩ : ∃ q, y / 100 = q := ⟨_, rfl⟩
  obtain ⟨q0, hq0⟩ : ∃ q, y / 400 = q := ⟨_, rfl⟩
  have H4 : Hid (∀ W, Calls Tryz.prog 118 #[.int .i64 y, .int .i64 4] W fun e w' => e = .returned (.int .i64 q4) ∧ W = w') := Lib.hid fun W => by have := floor_any y 4 (by omega) (by omega) (by omega) (by omega) W; rw [h4] at this; exact this
  have H1 : Hid (∀ W, Calls Tryz.prog 118 #[.int .i64 y, .int .i64 100] W fun e w' => e = .returned (.int .i64 q1) ∧ W = w') := Lib.hid fun W => by have := floor_any y 100 (by omega) (by omega) (by omega) (by omega) W; rw [hq1] at this; exact this
  have H0 : Hid (∀ W, Calls Tryz.prog 118 #[.int .i64 y, .int .i64 400] W fun e w' => e = .returned (.int .i64 q0) ∧ W = w') := Lib.hid fun W => by have := floor_any y 400 (by omega) (by omega) (by omega) (by omega) W; rw [hq0] at this; exact this
  have b4 : -1 ≤ q4 ∧ q4 ≤ 2500 := by omega
  have b1 : -1 ≤ q1 ∧ q1 ≤ 2500 := by omega
  have b0 : -1 ≤ q0 ∧ q0 ≤ 2500 := by omega
  rw [h4, hq1, hq0] at HR
  obtain ⟨s, hs⟩ : ∃ s, sinceD y m d = s := ⟨_, rfl⟩
  rw [hs] at HR ⊢
  obtain ⟨b40, b41⟩ := b4; obtain ⟨b10, b11⟩ := b1; obtain ⟨b00, b01⟩ := b0; obtain ⟨ha0, ha1⟩ := hab
  have ht : decide (m - 3 < 0) = false := by simp; omega
  have hw1 : m - 3 + 12 = m + 9 := by omega
  clear hs h4 hq1 hq0 ha hm
  go_enter Tryz.func75, Tryz.ntmps75
  go_wp2_with fail
  refine (H4.out _).mono ?_; rintro e w1 ⟨rfl, rfl⟩
  go_wp2_with fail
  refine (H1.out _).mono ?_; rintro e w1 ⟨rfl, rfl⟩
  go_wp2_with fail
  refine (H0.out _).mono ?_; rintro e w1 ⟨rfl, rfl⟩
  go_wp2_with fail
  refine (HA.out _).mono ?_; rintro e w1 ⟨rfl, rfl⟩
  go_wp2_with fail
  go_ret
  exact ⟨ret_i HR.out, rfl⟩
theorem since_any (y m d : Int) (hy0 : 0 ≤ y) (hy1 : y ≤ 9999) (hm0 : 1 ≤ m) (hm1 : m ≤ 12) (hd0 : 1 ≤ d) (hd1 : d ≤ 31) (w : World) :
    Calls Tryz.prog 75 #[.int .i64 y, .int .i64 m, .int .i64 d] w fun e w' => e = .returned (.int .i64 (sinceD y m d)) ∧ w = w' := by
  by_cases hm : m < 3
  · exact since_lo y m d hy0 hy1 hm0 hm1 hd0 hd1 hm w
  · exact since_hi y m d hy0 hy1 hm0 hm1 hd0 hd1 hm w
theorem since_bd (y m d : Int) (hy0 : 0 ≤ y) (hy1 : y ≤ 9999) (hd0 : 1 ≤ d) (hd1 : d ≤ 31) : -1000 ≤ sinceD y m d ∧ sinceD y m d ≤ 4000000 := by
  have h1 := aheadD_bd (m + 9)
  have h2 := aheadD_bd (m - 3)
  unfold sinceD
  split <;> omega
theorem ret_i3 {a b c a' b' c' : Int} (h1 : a = a') (h2 : b = b') (h3 : c = c') : Ending.returned (.tuple #[.int .i64 a, .int .i64 b, .int .i64 c]) = .returned (.tuple #[.int .i64 a', .int .i64 b', .int .i64 c']) := by rw [h1, h2, h3]
set_option maxRecDepth 100000 in
set_option maxHeartbeats 4000000 in
theorem date_any (n : Int) (hn0 : -1000 ≤ n) (hn1 : n ≤ 4000000) (w : World) :
    Calls Tryz.prog 74 #[.int .i64 n] w fun e w' => e = .returned (.tuple #[.int .i64 (dateY n), .int .i64 (dateM n), .int .i64 (dateDD n)]) ∧ w = w' := by
  obtain ⟨era, hera⟩ : ∃ q, n / 146097 = q := ⟨_, rfl⟩
  have hf : Hid (∀ W, Calls Tryz.prog 118 #[.int .i64 n, .int .i64 146097] W fun e w' => e = .returned (.int .i64 era) ∧ W = w') := Lib.hid fun W => by have := floor_any n 146097 (by omega) (by omega) (by omega) (by omega) W; rw [hera] at this; exact this
  have he0 : -1 ≤ era ∧ era ≤ 28 := by omega
  obtain ⟨r, hr⟩ : ∃ r, n - era * 146097 = r := ⟨_, rfl⟩
  have hrr : eraR n = r := by unfold eraR; rw [hera, hr]
  have hrb := eraR_bd n
  rw [hrr] at hrb
  obtain ⟨hr0, hr1⟩ := hrb
  obtain ⟨y, hy⟩ : ∃ y, (r - r / 1460 + r / 36524 - r / 146096) / 365 = y := ⟨_, rfl⟩
  have hyy : eraY r = y := hy
  have hyb := eraY_bd r hr0 hr1
  rw [hyy] at hyb
  obtain ⟨hy0, hy1⟩ := hyb
  obtain ⟨t, ht⟩ : ∃ t, r - (365 * y + y / 4 - y / 100) = t := ⟨_, rfl⟩
  have htt : eraD r = t := by unfold eraD; rw [hyy, ht]
  have htb := eraD_bd r hr0 hr1
  rw [htt] at htb
  obtain ⟨ht0, ht1⟩ := htb
  have H1 := Lib.hid (And.intro hrr (And.intro hyy (And.intro htt hera)))
  obtain ⟨he1, he2⟩ := he0
  have e1 : n - era * 146097 = r := hr
  have e2 : (r - r / 1460 + r / 36524 - r / 146096) / 365 = y := hy
  have e3 : r - (365 * y + y / 4 - y / 100) = t := ht
  have q1 : 0 ≤ r / 1460 ∧ r / 1460 ≤ 101 := by omega
  have q2 : 0 ≤ r / 36524 ∧ r / 36524 ≤ 5 := by omega
  have q3 : 0 ≤ r / 146096 ∧ r / 146096 ≤ 1 := by omega
  obtain ⟨q10, q11⟩ := q1; obtain ⟨q20, q21⟩ := q2; obtain ⟨q30, q31⟩ := q3
  have s1 : 0 ≤ r - r / 1460 + r / 36524 - r / 146096 := by omega
  have s2 : -1000000 ≤ era * 146097 ∧ era * 146097 ≤ 5000000 := by omega
  have hrw := hrr; have hyw := hyy
  clear hrr hyy htt hera hr hy ht hrw hyw
  go_enter Tryz.func74, Tryz.ntmps74
  go_wp2_with fail
  refine (hf.out _).mono ?_; rintro e w1 ⟨rfl, rfl⟩
  go_wp2_with fail
  try simp only [e1, e2, e3]
  go_loop [3] (fun m => ∃ k : Int, m = .int .i64 k ∧ 0 ≤ k ∧ k ≤ 11 ∧ Hid (monthD t ≤ k)) (fun m => (intOf m).toNat)
  case atStart => exact ⟨11, rfl, by omega, by omega, Lib.hid (monthD_bd t).2⟩
  case round =>
    obtain ⟨k, rfl, hk0, hk1, HK⟩ := hrel
    obtain ⟨a, ha⟩ : ∃ a, aheadD k = a := ⟨_, rfl⟩
    have hab := aheadD_bd k
    rw [ha] at hab
    have HA : Hid (∀ W, Calls Tryz.prog 119 #[.int .i64 k] W fun e w' => e = .returned (.int .i64 a) ∧ W = w') := Lib.hid fun W => by have := ahead_any k hk0 hk1 W; rw [ha] at this; exact this
    by_cases hgt : t < a
    · have HD := month_down t k ht0 HK.out hk1 (by rw [ha]; exact hgt)
      obtain ⟨hd1, hd2⟩ := HD
      have HD1 := Lib.hid hd1
      have hg : decide (t < a) = true := by simpa using hgt
      clear hd1 hgt ha
      go_wp2_with fail
      refine (HA.out _).mono ?_; rintro e w1 ⟨rfl, rfl⟩
      go_wp2_with fail
      go_round
      case rel => exact ⟨k - 1, rfl, by omega, by omega, HD1⟩
      case measure => simp [intOf]; omega
    · have hm := month_done t k ht0 HK.out hk1 (by rw [ha]; omega)
      have hg : decide (t < a) = false := by simpa using hgt
      have HM := Lib.hid (And.intro hm (And.intro ha H1))
      clear hm ha hgt
      by_cases h9 : 9 < k
      · have h12 : decide (12 < k + 3) = true := by simp; omega
        have HF := Lib.hid h9
        clear h9
        go_wp2_with fail
        refine (HA.out _).mono ?_; rintro e w1 ⟨rfl, rfl⟩
        go_wp2_with fail
        refine (HA.out _).mono ?_; rintro e w1 ⟨rfl, rfl⟩
        go_wp2_with fail
        go_returns
        obtain ⟨hm, ha, hh⟩ := HM.out
        obtain ⟨hrr, hyy, htt, hera⟩ := hh.out
        have h9 := HF.out
        refine ⟨ret_i3 ?_ ?_ ?_, rfl⟩
        · unfold dateY; rw [hrr, hyy, htt, hera, ← hm, if_pos (by omega)]
        · unfold dateM; rw [hrr, htt, ← hm, if_pos (by omega)]
        · unfold dateDD; rw [hrr, htt, ← hm, ha]
      · have h12 : decide (12 < k + 3) = false := by simp; omega
        have HF := Lib.hid h9
        clear h9
        go_wp2_with fail
        refine (HA.out _).mono ?_; rintro e w1 ⟨rfl, rfl⟩
        go_wp2_with fail
        refine (HA.out _).mono ?_; rintro e w1 ⟨rfl, rfl⟩
        go_wp2_with fail
        go_returns
        obtain ⟨hm, ha, hh⟩ := HM.out
        obtain ⟨hrr, hyy, htt, hera⟩ := hh.out
        have h9 := HF.out
        refine ⟨ret_i3 ?_ ?_ ?_, rfl⟩
        · unfold dateY; rw [hrr, hyy, htt, hera, ← hm, if_neg (by omega)]; omega
        · unfold dateM; rw [hrr, htt, ← hm, if_neg (by omega)]
        · unfold dateDD; rw [hrr, htt, ← hm, ha]
end Go.Proofs.YtjhgiojmlkeccaaGreatDoor
namespace Go.Proofs.YtjhgiojmlkeccaaGreatDoor
open Go.RowKit Go.Shelf
set_option maxRecDepth 100000 in
set_option maxHeartbeats 4000000 in
theorem ccmp64_any (x y : Int) (w : World) :
    Calls Tryz.prog 26 #[.int .i64 x, .int .i64 y] w fun e w' => e = .returned (.int .i64 (cmpI x y)) ∧ w = w' := by
  go_enter Tryz.func26, Tryz.ntmps26
  go_wp2
  all_goals
    go_ret
    refine ⟨ret_i ?_, rfl⟩
    go_light
    unfold cmpI
    repeat' split
    all_goals omega
set_option maxRecDepth 100000 in
set_option maxHeartbeats 4000000 in
theorem ccmpi_any (x y : Int) (w : World) :
    Calls Tryz.prog 81 #[.int .i64 x, .int .i64 y] w fun e w' => e = .returned (.int .i64 (cmpI x y)) ∧ w = w' := by
  go_enter Tryz.func81, Tryz.ntmps81
  go_wp2
  all_goals
    go_ret
    refine ⟨ret_i ?_, rfl⟩
    go_light
    unfold cmpI
    repeat' split
    all_goals omega
/-- The order of bytes. -/
def ordB (a b : ByteArray) : Int := if Op.bytesLess a.toList b.toList then -1 else if a.toList == b.toList then 0 else 1
theorem str_gtr (t : TypeId) (a b : ByteArray) : binOp .gtr t (.string a) (.string b) = pure (.bool (!Op.bytesLess a.toList b.toList && !a.toList == b.toList)) := by simp [binOp, Op.stringOp]
set_option maxRecDepth 100000 in
set_option maxHeartbeats 4000000 in
theorem nan_any (a : ByteArray) (w : World) :
    Calls Tryz.prog 114 #[.string a] w fun e w' => e = .returned (.bool false) ∧ w = w' := by
  go_enter Tryz.func114, Tryz.ntmps114
  go_wp2
  go_ret
  exact ⟨ret_b (by simp), rfl⟩
set_option maxRecDepth 100000 in
set_option maxHeartbeats 4000000 in
theorem wcmp_any (a b : ByteArray) (w : World) :
    Calls Tryz.prog 68 #[.string a, .string b] w fun e w' => e = .returned (.int .i64 (ordB a b)) ∧ w = w' := by
  unfold ordB
  obtain ⟨t1, h1⟩ : ∃ t, Op.bytesLess a.toList b.toList = t := ⟨_, rfl⟩
  obtain ⟨t2, h2⟩ : ∃ t, (a.toList == b.toList) = t := ⟨_, rfl⟩
  rw [h1, h2]
  have hgt := str_gtr 77 a b
  rw [h1, h2] at hgt
  cases t1 with
  | true =>
    rw [if_pos rfl]
    go_enter Tryz.func68, Tryz.ntmps68
    go_wp2_with fail
    refine (nan_any _ _).mono ?_; rintro e w1 ⟨rfl, rfl⟩
    go_wp2_with fail
    refine (nan_any _ _).mono ?_; rintro e w1 ⟨rfl, rfl⟩
    go_wp2_with fail
    go_ret
    exact ⟨rfl, rfl⟩
  | false =>
    rw [if_neg Bool.false_ne_true]
    cases t2 with
    | true =>
      rw [if_pos rfl]
      go_enter Tryz.func68, Tryz.ntmps68
      go_wp2_with fail
      refine (nan_any _ _).mono ?_; rintro e w1 ⟨rfl, rfl⟩
      go_wp2_with fail
      refine (nan_any _ _).mono ?_; rintro e w1 ⟨rfl, rfl⟩
      go_wp2_with fail
      go_ret
      exact ⟨rfl, rfl⟩
    | false =>
      rw [if_neg Bool.false_ne_true]
      go_enter Tryz.func68, Tryz.ntmps68
      go_wp2_with fail
      refine (nan_any _ _).mono ?_; rintro e w1 ⟨rfl, rfl⟩
      go_wp2_with fail
      refine (nan_any _ _).mono ?_; rintro e w1 ⟨rfl, rfl⟩
      go_wp2_with fail
      go_ret
      exact ⟨rfl, rfl⟩
set_option maxRecDepth 100000 in
set_option maxHeartbeats 4000000 in
theorem against_any (a b : ByteArray) (w : World) :
    Calls Tryz.prog 43 #[.string a, .string b] w fun e w' => e = .returned (.int .i64 (ordB a b)) ∧ w = w' := by
  go_enter Tryz.func43, Tryz.ntmps43
  go_wp2_with fail
  refine (wcmp_any _ _ _).mono ?_; rintro e w1 ⟨rfl, rfl⟩
  go_wp2_with fail
  go_ret
  exact ⟨rfl, rfl⟩
set_option maxRecDepth 100000 in
set_option maxHeartbeats 4000000 in
theorem ocompare_any (a b : ByteArray) (w : World) :
    Calls Tryz.prog 23 #[.string a, .string b] w fun e w' => e = .returned (.int .i64 (ordB a b)) ∧ w = w' := by
  go_enter Tryz.func23, Tryz.ntmps23
  go_wp2_with fail
  refine (against_any _ _ _).mono ?_; rintro e w1 ⟨rfl, rfl⟩
  go_wp2_with fail
  go_ret
  exact ⟨rfl, rfl⟩
set_option maxRecDepth 100000 in
set_option maxHeartbeats 4000000 in
theorem bytes_any (ka kb : Int) (nma txa nmb txb : ByteArray) (na ma nb mb : Int) (w : World) :
    Calls Tryz.prog 22 #[.agg #[.int .u8 ka, .string nma, .string txa, .int .i64 na, .int .i64 ma], .agg #[.int .u8 kb, .string nmb, .string txb, .int .i64 nb, .int .i64 mb]] w fun e w' => e = .returned (.int .i64 (ordB txa txb)) ∧ Below w.heap.size w w' := by
  go_enter Tryz.func22, Tryz.ntmps22
  go_wp2_with fail
  refine (ocompare_any _ _ _).mono ?_; rintro e w1 ⟨rfl, rfl⟩
  go_wp2_with fail
  go_ret
  exact ⟨rfl, by go_grown⟩
set_option maxRecDepth 100000 in
set_option maxHeartbeats 4000000 in
theorem cmpn_any (ka kb : Int) (nma txa nmb txb : ByteArray) (na ma nb mb : Int) (w : World) :
    Calls Tryz.prog 25 #[.agg #[.int .u8 ka, .string nma, .string txa, .int .i64 na, .int .i64 ma], .agg #[.int .u8 kb, .string nmb, .string txb, .int .i64 nb, .int .i64 mb]] w fun e w' => e = .returned (.int .i64 (cmpI na nb)) ∧ Below w.heap.size w w' := by
  go_enter Tryz.func25, Tryz.ntmps25
  go_wp2_with fail
  refine (ccmp64_any _ _ _).mono ?_; rintro e w1 ⟨rfl, rfl⟩
  go_wp2_with fail
  go_ret
  exact ⟨rfl, by go_grown⟩
def dchk (s n : Int) : Int := if 0 ≤ s ∧ s ≤ 315569519999 ∧ 0 ≤ n ∧ n ≤ 999999999 then 0 else 120
set_option maxRecDepth 100000 in
set_option maxHeartbeats 4000000 in
theorem dcheck_any (s n : Int) (w : World) :
    Calls Tryz.prog 76 #[.agg #[.int .i64 s, .int .i64 n]] w fun e w' => e = .returned (.int .i64 (dchk s n)) ∧ Below w.heap.size w w' := by
  by_cases h1 : s < 0
  · have e : dchk s n = 120 := if_neg (by omega)
    rw [e]
    have g1 : decide (s < 0) = true := by simpa using h1
    go_enter Tryz.func76, Tryz.ntmps76
    go_wp2_with fail
    go_ret
    exact ⟨rfl, by go_grown⟩
  by_cases h2 : 315569519999 < s
  · have e : dchk s n = 120 := if_neg (by omega)
    rw [e]
    have g1 : decide (s < 0) = false := by simpa using h1
    have g2 : decide (315569519999 < s) = true := by simpa using h2
    go_enter Tryz.func76, Tryz.ntmps76
    go_wp2_with fail
    go_ret
    exact ⟨rfl, by go_grown⟩
  by_cases h3 : n < 0
  · have e : dchk s n = 120 := if_neg (by omega)
    rw [e]
    have g1 : decide (s < 0) = false := by simpa using h1
    have g2 : decide (315569519999 < s) = false := by simpa using h2
    have g3 : decide (n < 0) = true := by simpa using h3
    go_enter Tryz.func76, Tryz.ntmps76
    go_wp2_with fail
    go_ret
    exact ⟨rfl, by go_grown⟩
  by_cases h4 : 999999999 < n
  · have e : dchk s n = 120 := if_neg (by omega)
    rw [e]
    have g1 : decide (s < 0) = false := by simpa using h1
    have g2 : decide (315569519999 < s) = false := by simpa using h2
    have g3 : decide (n < 0) = false := by simpa using h3
    have g4 : decide (999999999 < n) = true := by simpa using h4
    go_enter Tryz.func76, Tryz.ntmps76
    go_wp2_with fail
    go_ret
    exact ⟨rfl, by go_grown⟩
  · have e : dchk s n = 0 := if_pos (by omega)
    rw [e]
    have g1 : decide (s < 0) = false := by simpa using h1
    have g2 : decide (315569519999 < s) = false := by simpa using h2
    have g3 : decide (n < 0) = false := by simpa using h3
    have g4 : decide (999999999 < n) = false := by simpa using h4
    go_enter Tryz.func76, Tryz.ntmps76
    go_wp2_with fail
    go_ret
    exact ⟨rfl, by go_grown⟩
set_option maxRecDepth 100000 in
set_option maxHeartbeats 4000000 in
theorem dcompare_any (a b c d : Int) (w : World) :
    Calls Tryz.prog 52 #[.agg #[.int .i64 a, .int .i64 b], .agg #[.int .i64 c, .int .i64 d]] w fun e w' => e = .returned (.int .i64 (orI (cmpI a c) (cmpI b d))) ∧ Below w.heap.size w w' := by
  go_enter Tryz.func52, Tryz.ntmps52
  go_wp2_with fail
  go_region_held3 (fun W => W.cell? ⟨w.heap.size, 0, none⟩ = some (.int .i64 a) ∧ W.cell? ⟨w.heap.size, 1, none⟩ = some (.int .i64 b) ∧ W.cell? ⟨w.heap.size + 1, 0, none⟩ = some (.int .i64 c) ∧ W.cell? ⟨w.heap.size + 1, 1, none⟩ = some (.int .i64 d) ∧ w.heap.size + 1 < W.heap.size ∧ Below w.heap.size w W)
     (first | assumption | (refine ⟨by simp [go_sem], by simp [go_sem], by simp [go_sem], by simp [go_sem], by simp, ?_⟩; go_grown; done))
     (first | ((with_reducible refine (ccmp64_any _ _ _).mono ?_); rintro e w1 ⟨rfl, rfl⟩) | ((with_reducible refine (ccmpi_any _ _ _).mono ?_); rintro e w1 ⟨rfl, rfl⟩) | (go_at_call 80; refine (cor_any (w.heap.size + 1 + 1) (cmpI a c) (cmpI b d) _ (by simp [go_sem]) (by simp [go_sem])).mono ?_; rintro e w1 ⟨rfl, rfl⟩))
  all_goals
    go_wp2
    go_ret
    refine ⟨rfl, ?_⟩
    go_grown
set_option maxRecDepth 100000 in
set_option maxHeartbeats 4000000 in
theorem ddate_no (s n : Int) (w : World) (HC : Hid (DoesU w 76 #[.agg #[.int .i64 s, .int .i64 n]] (.int .i64 120))) :
    Calls Tryz.prog 77 #[.agg #[.int .i64 s, .int .i64 n]] w fun e w' => e = .returned (.tuple #[.int .i64 0, .int .i64 0, .int .i64 0, .int .i64 120]) ∧ Below w.heap.size w w' := by
  go_enter Tryz.func77, Tryz.ntmps77
  go_wp2_with fail
  refine (HC.out _ (by first | exact Below.refl _ _ | (go_grown; done))).mono ?_; rintro e w1 ⟨rfl, hb⟩
  have hh0 : w1.heap[w.heap.size]? = some (.cells #[.int .i64 s, .int .i64 n] 84 (0, 0)) := (hb.block _ (by first | omega | (simp; done) | (simp; omega))).trans (heap_new _ _ _ (by first | rfl | simp))
  have hbw1 : Below w.heap.size w w1 := (show Below w.heap.size w _ by first | exact Below.refl _ _ | (go_grown; done)).trans (hb.mono (by first | omega | (simp; done) | (simp; omega)))
  clear hb
  have HH0_1 := Lib.hid hh0
  have lt0 := heap_lt hh0
  have c0_0 : w1.cell? ⟨w.heap.size, 0, none⟩ = some (.int .i64 s) := by rw [Lib.cell_of_heap hh0]; rfl
  have f0_0 : w1.frozen? ⟨w.heap.size, 0, none⟩ = false := Lib.frozen_of_heap hh0 0
  have c0_1 : w1.cell? ⟨w.heap.size, 1, none⟩ = some (.int .i64 n) := by rw [Lib.cell_of_heap hh0]; rfl
  have f0_1 : w1.frozen? ⟨w.heap.size, 1, none⟩ = false := Lib.frozen_of_heap hh0 1
  clear hh0
  have sz1 := hbw1.size
  have HW1 := Lib.hid hbw1
  go_wp2_with fail
  go_returns
  exact ⟨rfl, by first | exact HW1.out | (go_grown; done)⟩
set_option maxRecDepth 100000 in
set_option maxHeartbeats 4000000 in
theorem ddate_go (s n y m d : Int) (hs0 : 0 ≤ s) (hs1 : s ≤ 315569519999) (w : World) (HC : Hid (DoesU w 76 #[.agg #[.int .i64 s, .int .i64 n]] (.int .i64 0))) (HD : Hid (DoesU w 74 #[.int .i64 (s / 86400 + -60)] (.tuple #[.int .i64 y, .int .i64 m, .int .i64 d]))) :
    Calls Tryz.prog 77 #[.agg #[.int .i64 s, .int .i64 n]] w fun e w' => e = .returned (.tuple #[.int .i64 y, .int .i64 m, .int .i64 d, .int .i64 0]) ∧ Below w.heap.size w w' := by
  go_enter Tryz.func77, Tryz.ntmps77
  go_wp2_with fail
  refine (HC.out _ (by first | exact Below.refl _ _ | (go_grown; done))).mono ?_; rintro e w1 ⟨rfl, hb⟩
  have hh0 : w1.heap[w.heap.size]? = some (.cells #[.int .i64 s, .int .i64 n] 84 (0, 0)) := (hb.block _ (by first | omega | (simp; done) | (simp; omega))).trans (heap_new _ _ _ (by first | rfl | simp))
  have hbw1 : Below w.heap.size w w1 := (show Below w.heap.size w _ by first | exact Below.refl _ _ | (go_grown; done)).trans (hb.mono (by first | omega | (simp; done) | (simp; omega)))
  clear hb
  have HH0_1 := Lib.hid hh0
  have lt0 := heap_lt hh0
  have c0_0 : w1.cell? ⟨w.heap.size, 0, none⟩ = some (.int .i64 s) := by rw [Lib.cell_of_heap hh0]; rfl
  have f0_0 : w1.frozen? ⟨w.heap.size, 0, none⟩ = false := Lib.frozen_of_heap hh0 0
  have c0_1 : w1.cell? ⟨w.heap.size, 1, none⟩ = some (.int .i64 n) := by rw [Lib.cell_of_heap hh0]; rfl
  have f0_1 : w1.frozen? ⟨w.heap.size, 1, none⟩ = false := Lib.frozen_of_heap hh0 1
  clear hh0
  have sz1 := hbw1.size
  have HW1 := Lib.hid hbw1
  go_wp2_with fail
  refine (HD.out _ (by first | exact HW1.out | exact HW1.out.trans ⟨rfl, rfl, rfl, Nat.le_refl _, fun _ _ => rfl⟩ | (go_grown; done))).mono ?_; rintro e w2 ⟨rfl, hb⟩
  have hv0 := HH0_1.out
  have hh0 : w2.heap[w.heap.size]? = some (.cells #[.int .i64 s, .int .i64 n] 84 (0, 0)) := (hb.block _ (heap_lt hv0)).trans hv0
  clear hv0
  have hbw2 : Below w.heap.size w w2 := (show Below w.heap.size w _ by first | exact HW1.out.trans ⟨rfl, rfl, rfl, Nat.le_refl _, fun _ _ => rfl⟩ | exact HW1.out | (go_grown; done)).trans (hb.mono (by first | omega | (simp; done) | (simp; omega)))
  clear hb lt0 c0_0 f0_0 c0_1 f0_1 hbw1
  have HH0_2 := Lib.hid hh0
  have lt0 := heap_lt hh0
  have c0_0 : w2.cell? ⟨w.heap.size, 0, none⟩ = some (.int .i64 s) := by rw [Lib.cell_of_heap hh0]; rfl
  have f0_0 : w2.frozen? ⟨w.heap.size, 0, none⟩ = false := Lib.frozen_of_heap hh0 0
  have c0_1 : w2.cell? ⟨w.heap.size, 1, none⟩ = some (.int .i64 n) := by rw [Lib.cell_of_heap hh0]; rfl
  have f0_1 : w2.frozen? ⟨w.heap.size, 1, none⟩ = false := Lib.frozen_of_heap hh0 1
  clear hh0
  have sz2 := hbw2.size
  have HW2 := Lib.hid hbw2
  go_wp2_with fail
  go_returns
  exact ⟨rfl, by first | exact HW2.out | (go_grown; done)⟩
end Go.Proofs.YtjhgiojmlkeccaaGreatDoor
namespace Go.Proofs.YtjhgiojmlkeccaaGreatDoor
open Go.RowKit Go.Shelf
/-- Each block that was there stands as it stood, but for one. -/
def KB (tb : Nat) (w w' : World) : Prop := Below tb w w' ∧ ∀ b, b < w.heap.size → b ≠ tb → w'.heap[b]? = w.heap[b]?
theorem KB.refl (tb : Nat) (w : World) : KB tb w w := ⟨Below.refl _ _, fun _ _ _ => rfl⟩
theorem KB.trans {tb : Nat} {w w' w'' : World} (h : KB tb w w') (h' : KB tb w' w'') : KB tb w w'' := ⟨h.1.trans h'.1, fun b hb hn => (h'.2 b (Nat.lt_of_lt_of_le hb h.1.size) hn).trans (h.2 b hb hn)⟩
theorem KB.set {tb : Nat} {w w' : World} (h : KB tb w w') (i : Nat) (v : Value) : KB tb w (w'.setCell ⟨tb, i, none⟩ v) := ⟨h.1.setCell (p := ⟨tb, i, none⟩) (Nat.le_refl tb) v, fun b hb hn => by rw [Below.heap_setCell _ _ _ _ hn]; exact h.2 b hb hn⟩
theorem KB.below {tb : Nat} {w w' w'' : World} (h : KB tb w w') (hb : Below w'.heap.size w' w'') (hs : tb < w'.heap.size) : KB tb w w'' := ⟨h.1.trans (hb.mono (Nat.le_of_lt hs)), fun b hb' hn => (hb.block b (Nat.lt_of_lt_of_le hb' h.1.size)).trans (h.2 b hb' hn)⟩
def TXc (tb : Nat) (s : ByteArray) (b : Bool) (W : World) : Prop := W.heap[tb]? = some (.cells #[.string s, .bool b] 116 (0, 0))
theorem TXc.c0 {tb : Nat} {s : ByteArray} {b : Bool} {W : World} (h : TXc tb s b W) : W.cell? ⟨tb, 0, none⟩ = some (.string s) := (Lib.cell_of_heap h 0).trans rfl
theorem TXc.c1 {tb : Nat} {s : ByteArray} {b : Bool} {W : World} (h : TXc tb s b W) : W.cell? ⟨tb, 1, none⟩ = some (.bool b) := (Lib.cell_of_heap h 1).trans rfl
theorem TXc.f {tb : Nat} {s : ByteArray} {b : Bool} {W : World} (h : TXc tb s b W) (i : Nat) : W.frozen? ⟨tb, i, none⟩ = false := Lib.frozen_of_heap h i
theorem TXc.lt {tb : Nat} {s : ByteArray} {b : Bool} {W : World} (h : TXc tb s b W) : tb < W.heap.size := heap_lt h
theorem TXc.setS {tb : Nat} {s : ByteArray} {b : Bool} {W : World} (h : TXc tb s b W) (s' : ByteArray) : TXc tb s' b (W.setCell ⟨tb, 0, none⟩ (.string s')) := on_pset h _ rfl
theorem TXc.setB {tb : Nat} {s : ByteArray} {b : Bool} {W : World} (h : TXc tb s b W) (b' : Bool) : TXc tb s b' (W.setCell ⟨tb, 1, none⟩ (.bool b')) := on_pset h _ rfl
theorem TXc.kept {tb : Nat} {s : ByteArray} {b : Bool} {W W' : World} (h : TXc tb s b W) (hb : Below W.heap.size W W') : TXc tb s b W' := (hb.block tb (heap_lt h)).trans h
set_option maxRecDepth 100000 in
set_option maxHeartbeats 4000000 in
theorem dmark_nil (marks : ByteArray) (tb : Nat) (b : Bool) (w : World) (hh : TXc tb ⟨#[]⟩ b w) :
    Calls Tryz.prog 72 #[.pointer (some ⟨tb, 0, none⟩), .string marks] w fun e w' => e = .returned (.int .u8 0) ∧ TXc tb ⟨#[]⟩ true w' ∧ KB tb w w' := by
  have c0 := hh.c0
  have c1 := hh.c1
  have f0 := hh.f 0
  have f1 := hh.f 1
  have HH := Lib.hid hh
  clear hh
  go_enter Tryz.func72, Tryz.ntmps72
  go_wp2_with fail
  go_ret
  exact ⟨rfl, HH.out.setB true, (KB.refl _ _).set 1 _⟩
set_option maxRecDepth 100000 in
set_option maxHeartbeats 4000000 in
theorem dmark_no (marks s : ByteArray) (hp : 0 < s.size) (hne : ¬ s.toList = []) (hne2 : s.toList.isEmpty = false) (hs : s.size ≤ 1000000) (x : Int) (hx : x < 0) (tb : Nat) (b : Bool) (w : World) (hh : TXc tb s b w) (HX : Hid (∀ W, Calls Tryz.prog 117 #[.string marks, .int .u8 ((s[0]).toNat : Int)] W fun e w' => e = .returned (.int .i64 x) ∧ W = w')) :
    Calls Tryz.prog 72 #[.pointer (some ⟨tb, 0, none⟩), .string marks] w fun e w' => e = .returned (.int .u8 0) ∧ TXc tb s true w' ∧ KB tb w w' := by
  have hx2 : decide (x < 0) = true := by simpa using hx
  have c0 := hh.c0
  have c1 := hh.c1
  have f0 := hh.f 0
  have f1 := hh.f 1
  have HH := Lib.hid hh
  clear hh
  go_enter Tryz.func72, Tryz.ntmps72
  go_wp2_with fail
  refine (HX.out _).mono ?_; rintro e w1 ⟨rfl, rfl⟩
  go_wp2_with fail
  go_ret
  exact ⟨rfl, HH.out.setB true, (KB.refl _ _).set 1 _⟩
set_option maxRecDepth 100000 in
set_option maxHeartbeats 4000000 in
theorem dmark_yes (marks s s' : ByteArray) (hp : 0 < s.size) (hne : ¬ s.toList = []) (hne2 : s.toList.isEmpty = false) (hs : s.size ≤ 1000000) (hs' : s.extract 1 s.size = s') (x : Int) (hx : 0 ≤ x) (tb : Nat) (b : Bool) (w : World) (hh : TXc tb s b w) (HX : Hid (∀ W, Calls Tryz.prog 117 #[.string marks, .int .u8 ((s[0]).toNat : Int)] W fun e w' => e = .returned (.int .i64 x) ∧ W = w')) :
    Calls Tryz.prog 72 #[.pointer (some ⟨tb, 0, none⟩), .string marks] w fun e w' => e = .returned (.int .u8 ((s[0]).toNat : Int)) ∧ TXc tb s' b w' ∧ KB tb w w' := by
  have hx2 : decide (x < 0) = false := by simpa using hx
  have c0 := hh.c0
  have c1 := hh.c1
  have f0 := hh.f 0
  have f1 := hh.f 1
  have HH := Lib.hid hh
  clear hh
  go_enter Tryz.func72, Tryz.ntmps72
  go_wp2_with fail
  refine (HX.out _).mono ?_; rintro e w1 ⟨rfl, rfl⟩
  go_wp2_with fail
  go_ret
  exact ⟨rfl, HH.out.setS s', (KB.refl _ _).set 0 _⟩
set_option maxRecDepth 100000 in
set_option maxHeartbeats 4000000 in
theorem dnum_short (many : Nat) (low high : Int) (s : ByteArray) (hs : s.size < many) (hm : many ≤ 9) (tb : Nat) (b : Bool) (w : World) (hh : TXc tb s b w) :
    Calls Tryz.prog 71 #[.pointer (some ⟨tb, 0, none⟩), .int .i64 (many : Nat), .int .i64 low, .int .i64 high] w fun e w' => e = .returned (.int .i64 low) ∧ TXc tb s true w' ∧ KB tb w w' := by
  have c0 := hh.c0
  have c1 := hh.c1
  have f0 := hh.f 0
  have f1 := hh.f 1
  have HH := Lib.hid hh
  clear hh
  go_enter Tryz.func71, Tryz.ntmps71
  go_wp2_with fail
  go_ret
  exact ⟨rfl, HH.out.setB true, (KB.refl _ _).set 1 _⟩
def badU (l : List UInt8) (b : Bool) : Bool := b || l.any fun c => !isDig c
theorem badU_snoc (l : List UInt8) (c : UInt8) (b : Bool) : badU (l ++ [c]) b = (badU l b || !isDig c) := by
  unfold badU; rw [List.any_append, List.any_cons, List.any_nil, Bool.or_false, Bool.or_assoc]
theorem valU_snoc (l : List UInt8) (c : UInt8) : valU (l ++ [c]) = valU l * 10 + ((c.toNat : Int) - 48) % 256 := by
  unfold valU; rw [List.foldl_append]; rfl
theorem take_snoc_d (s : ByteArray) (k : Nat) (h : k < s.size) : s.data.toList.take (k + 1) = s.data.toList.take k ++ [s[k]] := by
  rw [List.take_succ_eq_append_getElem (by simpa using h)]; rfl
set_option maxRecDepth 100000 in
set_option maxHeartbeats 4000000 in
theorem dnum_go (many : Nat) (low high : Int) (s x s' : ByteArray) (hs : many ≤ s.size) (hm : many ≤ 9) (hsz : s.size ≤ 1000000) (hx : s.extract 0 many = x) (hs' : s.extract many s.size = s') (n : Int) (hn : valU x.data.toList = n)
    (b1 b2 b3 : Bool) (tb : Nat) (b : Bool) (w : World) (hh : TXc tb s b w) (hb1 : badU x.data.toList b = b1) (hlo : decide (n < low) = b2) (hhi : decide (high < n) = b3) :
    Calls Tryz.prog 71 #[.pointer (some ⟨tb, 0, none⟩), .int .i64 (many : Nat), .int .i64 low, .int .i64 high] w fun e w' => e = .returned (.int .i64 (if b1 || b2 || b3 then low else n)) ∧ TXc tb s' (b1 || b2 || b3) w' ∧ KB tb w w' := by
  have hxs : x.size = many := by rw [← hx, ByteArray.size_extract]; omega
  have kc := run_bytes_of_string (P := Tryz.prog) w 9 131 5 x Tryz.underlying9 Tryz.underlying131 Tryz.underlying5
  obtain ⟨gc, hgc⟩ : ∃ gc, grownCap w x.size 0 5 = gc := ⟨_, rfl⟩
  rw [hgc] at kc
  obtain ⟨w1, hw1⟩ : ∃ w1 : World, w1 = w.drew.alloc (.cells (bytesRow x gc) 5 ((bytesRow x gc).size, (bytesRow x gc).size + 1)) := ⟨_, rfl⟩
  rw [← hw1, hxs] at kc
  have HROW : Hid (∀ (j : Nat) (h : j < x.size), w1.cell? ⟨w.heap.size, j, none⟩ = some (.int .u8 x[j].toNat)) := Lib.hid (by
    intro j hj
    rw [hw1]
    change (w.alloc _).cell? _ = _
    rw [World.cell?_alloc_mark]
    exact bytesRow_at x _ j hj)
  have HT1 : Hid (TXc tb s b w1) := Lib.hid (by rw [hw1]; exact heap_old (W := w.drew) hh)
  have hb01 : Below w.heap.size w w1 := by rw [hw1]; exact ((Below.refl _ _).drew).alloc (Nat.le_refl _) _
  have HK1 : Hid (KB tb w w1) := Lib.hid ((KB.refl tb w).below hb01 hh.lt)
  have HS1 := Lib.hid hs'
  have HN := Lib.hid hn
  have HB1 := Lib.hid hb1
  have HL := Lib.hid (And.intro hlo hhi)
  have HXS := Lib.hid hxs
  have hlt := hh.lt
  have hsz1 : w.heap.size ≤ w1.heap.size := hb01.size
  have c0 := hh.c0
  have c1 := hh.c1
  have f0 := hh.f 0
  have f1 := hh.f 1
  have HH := Lib.hid hh
  clear hh
  clear hs' hn hb1 hlo hhi hxs hgc hw1 hb01
  go_enter Tryz.func71, Tryz.ntmps71
  go_wp2_with fail
  clear kc c0 c1 f0 f1
  go_loopw [8, 30] (fun n i wr => ∃ k : Nat, k ≤ many ∧ i = .int .i64 k ∧ n = .int .i64 (valU (x.data.toList.take k)) ∧ Hid (TXc tb s (badU (x.data.toList.take k) b) wr) ∧ Hid (KB tb w1 wr)) (fun n i wr => many - (intOf i).toNat)
  case atStart => exact ⟨0, Nat.zero_le _, rfl, rfl, Lib.hid (by have := HT1.out; simpa [badU] using this), Lib.hid (KB.refl _ _)⟩
  case round =>
    rename World => wr
    obtain ⟨k, hk, rfl, rfl, HT, HK⟩ := hrel
    by_cases hlk : k < many
    · have hkx : k < x.size := by rw [HXS.out]; exact hlk
      have hc : wr.cell? ⟨w.heap.size, k, none⟩ = some (.int .u8 x[k].toNat) := by
        have h1 := HROW.out k hkx
        have h2 := HK.out.2 w.heap.size (lt_of_cell h1) (by omega)
        unfold World.cell? at h1 ⊢
        simp only at h1 ⊢
        rw [h2]; exact h1
      obtain ⟨cc, hcc⟩ : ∃ c : UInt8, x[k] = c := ⟨_, rfl⟩
      have HV : Hid (valU (x.data.toList.take (k + 1)) = valU (x.data.toList.take k) * 10 + ((cc.toNat : Int) - 48) % 256) := Lib.hid (by rw [take_snoc_d x k hkx, hcc, valU_snoc])
      have HBU : Hid (badU (x.data.toList.take (k + 1)) b = (badU (x.data.toList.take k) b || !isDig cc)) := Lib.hid (by rw [take_snoc_d x k hkx, hcc, badU_snoc])
      rw [hcc] at hc
      clear hcc
      have hcb : cc.toNat < 256 := UInt8.toNat_lt _
      obtain ⟨c, hce⟩ : ∃ c : Nat, cc.toNat = c := ⟨_, rfl⟩
      have hdig : isDig cc = decide (48 ≤ c ∧ c ≤ 57) := by unfold isDig; rw [hce]
      rw [hce] at hc hcb HV
      rw [hdig] at HBU
      clear hce hdig
      have hvb := valU_bd (x.data.toList.take k)
      have hle : (x.data.toList.take k).length ≤ 8 := by rw [List.length_take]; omega
      have hp : (10 : Int) ^ (x.data.toList.take k).length ≤ 10 ^ 8 := by
        have : (10 : Nat) ^ (x.data.toList.take k).length ≤ 10 ^ 8 := Nat.pow_le_pow_right (by omega) hle
        exact_mod_cast this
      obtain ⟨v, hv⟩ : ∃ v, valU (x.data.toList.take k) = v := ⟨_, rfl⟩
      rw [hv] at hvb HV ⊢
      have hv0 : 0 ≤ v := hvb.1
      have hv1 : v ≤ 25600000000 := by have := hvb.2; omega
      clear hvb hp hle hv
      obtain ⟨bk, hbk⟩ : ∃ q, badU (x.data.toList.take k) b = q := ⟨_, rfl⟩
      rw [hbk] at HT HBU
      clear hbk
      have d0 := HT.out.c0
      have d1 := HT.out.c1
      have g1 := HT.out.f 1
      by_cases h48 : c < 48
      · have t1 : decide ((c : Int) < 48) = true := by simp; omega
        have hwr : IntKind.u8.wrap ((c : Int) - 48) = (c : Int) + 208 := by rw [IntKind.wrap_u8]; omega
        have HV2 : Hid (valU (x.data.toList.take (k + 1)) = v * 10 + ((c : Int) + 208)) := Lib.hid (by rw [HV.out]; omega)
        have HB2 : Hid (badU (x.data.toList.take (k + 1)) b = true) := Lib.hid (by rw [HBU.out]; have : decide (48 ≤ c ∧ c ≤ 57) = false := by simp; omega
                                                                                   rw [this]; simp)
        clear HV HBU
        cases bk
        all_goals
          go_wp2_with fail
          go_roundw
          case rel => exact ⟨k + 1, by omega, by go_num, by rw [HV2.out], Lib.hid (by rw [HB2.out]; exact HT.out.setB true), Lib.hid (HK.out.set 1 _)⟩
          case measure => simp [intOf]; omega
      · have t1 : decide ((c : Int) < 48) = false := by simp; omega
        obtain ⟨d, hd⟩ : ∃ d : Int, (c : Int) - 48 = d := ⟨_, rfl⟩
        have hd0 : 0 ≤ d := by omega
        have hd1 : d ≤ 207 := by omega
        have HV2 : Hid (valU (x.data.toList.take (k + 1)) = v * 10 + d) := Lib.hid (by rw [HV.out]; omega)
        obtain ⟨t2, ht2⟩ : ∃ t, decide (57 < (c : Int)) = t := ⟨_, rfl⟩
        have HB2 : Hid (badU (x.data.toList.take (k + 1)) b = (bk || t2)) := Lib.hid (by
          rw [HBU.out, ← ht2]
          have : (!decide (48 ≤ c ∧ c ≤ 57)) = decide (57 < (c : Int)) := by
            rw [Bool.eq_iff_iff]; simp; omega
          rw [this])
        clear HV HBU
        cases bk <;> cases t2
        all_goals
          go_wp2_with fail
          go_roundw
          case rel => exact ⟨k + 1, by omega, by go_num, by rw [HV2.out], Lib.hid (by rw [HB2.out]; exact HT.out.setB _), Lib.hid (HK.out.set 1 _)⟩
          case measure => simp [intOf]; omega
    · have hke : k = many := by omega
      subst hke
      have htk : x.data.toList.take k = x.data.toList := List.take_of_length_le (by rw [Array.length_toList]; have := HXS.out; change x.data.size ≤ k; change x.data.size = k at this; omega)
      rw [htk] at HT ⊢
      rw [HN.out] at ⊢
      rw [HB1.out] at HT
      clear htk
      have d0 := HT.out.c0
      have d1 := HT.out.c1
      have g0 := HT.out.f 0
      have g1 := HT.out.f 1
      obtain ⟨l1, l2⟩ := HL.out
      have he := HS1.out
      have HE : Hid (KB tb w ((wr.setCell ⟨tb, 0, none⟩ (.string s')).setCell ⟨tb, 1, none⟩ (.bool (b1 || b2 || b3)))) := Lib.hid (((HK1.out.trans HK.out).set 0 _).set 1 _)
      have HF : Hid (TXc tb s' (b1 || b2 || b3) ((wr.setCell ⟨tb, 0, none⟩ (.string s')).setCell ⟨tb, 1, none⟩ (.bool (b1 || b2 || b3)))) := Lib.hid ((HT.out.setS s').setB _)
      cases b1 <;> cases b2 <;> cases b3
      all_goals
        go_wp2_with fail
        go_ret
        exact ⟨rfl, HF.out, HE.out⟩
end Go.Proofs.YtjhgiojmlkeccaaGreatDoor
namespace Go.Proofs.YtjhgiojmlkeccaaGreatDoor
open Go.RowKit Go.Shelf
set_option maxRecDepth 100000 in
set_option maxHeartbeats 4000000 in
theorem dfrac_no (s r : ByteArray) (tb : Nat) (b : Bool) (w : World) (hh : TXc tb s b w) (HC : Hid (∀ W, Calls Tryz.prog 84 #[.string s, .string ⟨#[46]⟩] W fun e w' => e = .returned (.tuple #[.string r, .bool false]) ∧ W = w')) :
    Calls Tryz.prog 73 #[.pointer (some ⟨tb, 0, none⟩)] w fun e w' => e = .returned (.int .i64 0) ∧ TXc tb s b w' ∧ KB tb w w' := by
  have c0 := hh.c0
  have c1 := hh.c1
  have f0 := hh.f 0
  have f1 := hh.f 1
  have HH := Lib.hid hh
  have hlt := hh.lt
  clear hh
  go_enter Tryz.func73, Tryz.ntmps73
  go_wp2_with fail
  refine (HC.out _).mono ?_; rintro e w1 ⟨rfl, rfl⟩
  go_wp2_with fail
  go_ret
  exact ⟨rfl, HH.out, KB.refl _ _⟩
set_option maxRecDepth 100000 in
set_option maxHeartbeats 4000000 in
theorem dfrac_bad (s r y : ByteArray) (hr : r.size ≤ 1000000) (hy : y.size ≤ r.size) (k : Nat) (he : (r.size : Int) - (y.size : Int) = k) (hk : k < 1 ∨ 9 < k) (tb : Nat) (b : Bool) (w : World) (hh : TXc tb s b w) (HC : Hid (∀ W, Calls Tryz.prog 84 #[.string s, .string ⟨#[46]⟩] W fun e w' => e = .returned (.tuple #[.string r, .bool true]) ∧ W = w'))
    (HT : Hid (∀ W, Calls Tryz.prog 89 #[.string r, .string ⟨#[48, 49, 50, 51, 52, 53, 54, 55, 56, 57]⟩] W fun e w' => e = .returned (.string y) ∧ Below W.heap.size W w')) :
    Calls Tryz.prog 73 #[.pointer (some ⟨tb, 0, none⟩)] w fun e w' => e = .returned (.int .i64 0) ∧ TXc tb r true w' ∧ KB tb w w' := by
  have c0 := hh.c0
  have c1 := hh.c1
  have f0 := hh.f 0
  have f1 := hh.f 1
  have HH := Lib.hid hh
  have hlt := hh.lt
  clear hh
  obtain ⟨t, ht⟩ : ∃ t, decide ((k : Int) < 1) = t := ⟨_, rfl⟩
  have ht2 : t = false → decide (9 < (k : Int)) = true := by
    intro h; rw [h] at ht; simp at ht ⊢; omega
  clear hk
  cases t
  · have hu := ht2 rfl
    clear ht2
    go_enter Tryz.func73, Tryz.ntmps73
    go_wp2_with fail
    refine (HC.out _).mono ?_; rintro e w1 ⟨rfl, rfl⟩
    go_upto_region 5 with fail
    have HT1 : Hid (TXc tb r b (w.setCell ⟨tb, 0, none⟩ (.string r))) := Lib.hid (HH.out.setS r)
    have HK1 : Hid (KB tb w (w.setCell ⟨tb, 0, none⟩ (.string r))) := Lib.hid ((KB.refl _ _).set 0 _)
    obtain ⟨w1, hw1⟩ : ∃ w1 : World, w1 = w.setCell ⟨tb, 0, none⟩ (.string r) := ⟨_, rfl⟩
    rw [← hw1] at HT1 HK1 ⊢
    clear hw1 c0 c1 f0 f1
    go_wp2_with fail
    refine (HT.out _).mono ?_; rintro e w2 ⟨rfl, hb⟩
    have HT2 : Hid (TXc tb r b w2) := Lib.hid (HT1.out.kept hb)
    have HK2 : Hid (KB tb w w2) := Lib.hid (HK1.out.below hb HT1.out.lt)
    have c0 := HT2.out.c0
    have c1 := HT2.out.c1
    have f0 := HT2.out.f 0
    have f1 := HT2.out.f 1
    clear hb
    go_wp2_with fail
    go_ret
    exact ⟨rfl, HT2.out.setB true, HK2.out.set 1 _⟩
  · clear ht2
    go_enter Tryz.func73, Tryz.ntmps73
    go_wp2_with fail
    refine (HC.out _).mono ?_; rintro e w1 ⟨rfl, rfl⟩
    go_upto_region 5 with fail
    have HT1 : Hid (TXc tb r b (w.setCell ⟨tb, 0, none⟩ (.string r))) := Lib.hid (HH.out.setS r)
    have HK1 : Hid (KB tb w (w.setCell ⟨tb, 0, none⟩ (.string r))) := Lib.hid ((KB.refl _ _).set 0 _)
    obtain ⟨w1, hw1⟩ : ∃ w1 : World, w1 = w.setCell ⟨tb, 0, none⟩ (.string r) := ⟨_, rfl⟩
    rw [← hw1] at HT1 HK1 ⊢
    clear hw1 c0 c1 f0 f1
    go_wp2_with fail
    refine (HT.out _).mono ?_; rintro e w2 ⟨rfl, hb⟩
    have HT2 : Hid (TXc tb r b w2) := Lib.hid (HT1.out.kept hb)
    have HK2 : Hid (KB tb w w2) := Lib.hid (HK1.out.below hb HT1.out.lt)
    have c0 := HT2.out.c0
    have c1 := HT2.out.c1
    have f0 := HT2.out.f 0
    have f1 := HT2.out.f 1
    clear hb
    go_wp2_with fail
    go_ret
    exact ⟨rfl, HT2.out.setB true, HK2.out.set 1 _⟩
set_option maxRecDepth 100000 in
set_option maxHeartbeats 4000000 in
theorem dfrac_go (s r y s' : ByteArray) (hr : r.size ≤ 1000000) (hy : y.size ≤ r.size) (k : Nat) (he : (r.size : Int) - (y.size : Int) = k) (hk0 : 1 ≤ k) (hk1 : k ≤ 9) (v : Int) (hv0 : 0 ≤ v) (hv1 : v ≤ 999999999) (tb : Nat) (b b' : Bool) (w : World) (hh : TXc tb s b w) (HC : Hid (∀ W, Calls Tryz.prog 84 #[.string s, .string ⟨#[46]⟩] W fun e w' => e = .returned (.tuple #[.string r, .bool true]) ∧ W = w'))
    (HT : Hid (∀ W, Calls Tryz.prog 89 #[.string r, .string ⟨#[48, 49, 50, 51, 52, 53, 54, 55, 56, 57]⟩] W fun e w' => e = .returned (.string y) ∧ Below W.heap.size W w'))
    (HN : Hid (∀ W, TXc tb r b W → Calls Tryz.prog 71 #[.pointer (some ⟨tb, 0, none⟩), .int .i64 (k : Nat), .int .i64 0, .int .i64 999999999] W fun e w' => e = .returned (.int .i64 v) ∧ TXc tb s' b' w' ∧ KB tb W w')) :
    Calls Tryz.prog 73 #[.pointer (some ⟨tb, 0, none⟩)] w fun e w' => e = .returned (.int .i64 (v * 10 ^ (9 - k))) ∧ TXc tb s' b' w' ∧ KB tb w w' := by
  have c0 := hh.c0
  have c1 := hh.c1
  have f0 := hh.f 0
  have f1 := hh.f 1
  have HH := Lib.hid hh
  have hlt := hh.lt
  clear hh
  have t1 : decide ((k : Int) < 1) = false := by simp; omega
  have t2 : decide (9 < (k : Int)) = false := by simp; omega
  go_enter Tryz.func73, Tryz.ntmps73
  go_wp2_with fail
  refine (HC.out _).mono ?_; rintro e w1 ⟨rfl, rfl⟩
  go_upto_region 5 with fail
  have HT1 : Hid (TXc tb r b (w.setCell ⟨tb, 0, none⟩ (.string r))) := Lib.hid (HH.out.setS r)
  have HK1 : Hid (KB tb w (w.setCell ⟨tb, 0, none⟩ (.string r))) := Lib.hid ((KB.refl _ _).set 0 _)
  obtain ⟨w1, hw1⟩ : ∃ w1 : World, w1 = w.setCell ⟨tb, 0, none⟩ (.string r) := ⟨_, rfl⟩
  rw [← hw1] at HT1 HK1 ⊢
  clear hw1 c0 c1 f0 f1
  go_wp2_with fail
  refine (HT.out _).mono ?_; rintro e w2 ⟨rfl, hb⟩
  have HT2 : Hid (TXc tb r b w2) := Lib.hid (HT1.out.kept hb)
  have HK2 : Hid (KB tb w w2) := Lib.hid (HK1.out.below hb HT1.out.lt)
  have c0 := HT2.out.c0
  have c1 := HT2.out.c1
  have f0 := HT2.out.f 0
  have f1 := HT2.out.f 1
  clear hb
  go_wp2_with fail
  refine (HN.out _ HT2.out).mono ?_; rintro e w3 ⟨rfl, ht3, hk3⟩
  have HE : Hid (TXc tb s' b' w3 ∧ KB tb w w3) := Lib.hid ⟨ht3, HK2.out.trans hk3⟩
  clear ht3 hk3 c0 c1 f0 f1 he t1 t2
  go_wp2_with fail
  go_loop [2, 40] (fun n i => ∃ j : Nat, j ≤ 9 - k ∧ i = .int .i64 j ∧ n = .int .i64 (v * 10 ^ j)) (fun n i => 9 - (intOf i).toNat)
  case atStart => exact ⟨0, Nat.zero_le _, rfl, by simp⟩
  case round =>
    obtain ⟨j, hj, rfl, rfl⟩ := hrel
    by_cases hlt2 : j < 9 - k
    · have hp : (1 : Int) ≤ 10 ^ j ∧ (10 : Int) ^ j ≤ 10 ^ 8 := by
        have h1 : (10 : Nat) ^ j ≤ 10 ^ 8 := Nat.pow_le_pow_right (by omega) (by omega)
        have h2 : 1 ≤ (10 : Nat) ^ j := Nat.one_le_pow _ _ (by omega)
        exact ⟨by exact_mod_cast h2, by exact_mod_cast h1⟩
      have hm : 0 ≤ v * 10 ^ j ∧ v * 10 ^ j ≤ 99999999900000000 := by
        refine ⟨Int.mul_nonneg hv0 (by omega), ?_⟩
        have := Int.mul_le_mul hv1 hp.2 (by omega) (by omega : (0 : Int) ≤ 999999999)
        omega
      have HS : Hid (v * 10 ^ (j + 1) = v * 10 ^ j * 10) := Lib.hid (by rw [Int.pow_succ, Int.mul_assoc])
      obtain ⟨z, hz⟩ : ∃ z, v * 10 ^ j = z := ⟨_, rfl⟩
      rw [hz] at hm HS ⊢
      obtain ⟨hm0, hm1⟩ := hm
      have tl : decide ((j : Int) < 9 - (k : Int)) = true := by simp; omega
      clear hz hp
      go_wp2_with fail
      go_round
      case rel => exact ⟨j + 1, by omega, by go_num, by rw [HS.out]⟩
      case measure => simp [intOf]; omega
    · obtain rfl : j = 9 - k := by omega
      have tl : decide (((9 - k : Nat) : Int) < 9 - (k : Int)) = false := by simp; omega
      go_wp2_with fail
      go_ret
      exact ⟨rfl, HE.out.1, HE.out.2⟩
end Go.Proofs.YtjhgiojmlkeccaaGreatDoor
namespace Go.Proofs.YtjhgiojmlkeccaaGreatDoor
open Go.RowKit Go.Shelf
theorem scope_once {P : Program} {a : Act} {w : World} {Q : Exit → Act → World → Prop} {c rest : Code} (l : Nat) (hf : findLabel c l = some rest)
    (first : c.wp P (Exit.jump l (fun a w => rest.wp P (Exit.noGoto Q) a w) Q) a w) : (Code.scope c).wp P Q a w :=
  wp_scope_jumps l (fun a w => rest.wp P (Exit.noGoto Q) a w) (fun _ _ => 0) hf first fun a w hJ => wp_mono hJ fun e a w h => by
    cases e with
    | goto l' => exact h.elim
    | _ => exact h
theorem goto_jump {l : Nat} {J : Act → World → Prop} {Q : Exit → Act → World → Prop} {a : Act} {w : World} (h : J a w) : Exit.jump l J Q (.goto l) a w := ⟨rfl, h⟩
theorem jump_ret {l : Nat} {J : Act → World → Prop} {Q : Exit → Act → World → Prop} {a : Act} {w : World} : Exit.jump l J Q .ret a w = Q .ret a w := rfl
def DNum (many : Nat) (lo hi v : Int) (s : ByteArray) (b : Bool) (s' : ByteArray) (b' : Bool) : Prop := ∀ (tb : Nat) (W : World), TXc tb s b W → Calls Tryz.prog 71 #[.pointer (some ⟨tb, 0, none⟩), .int .i64 (many : Nat), .int .i64 lo, .int .i64 hi] W fun e w' => e = .returned (.int .i64 v) ∧ TXc tb s' b' w' ∧ KB tb W w'
def DMark (marks : ByteArray) (v : Int) (s : ByteArray) (b : Bool) (s' : ByteArray) (b' : Bool) : Prop := ∀ (tb : Nat) (W : World), TXc tb s b W → Calls Tryz.prog 72 #[.pointer (some ⟨tb, 0, none⟩), .string marks] W fun e w' => e = .returned (.int .u8 v) ∧ TXc tb s' b' w' ∧ KB tb W w'
def DFrac (v : Int) (s : ByteArray) (b : Bool) (s' : ByteArray) (b' : Bool) : Prop := ∀ (tb : Nat) (W : World), TXc tb s b W → Calls Tryz.prog 73 #[.pointer (some ⟨tb, 0, none⟩)] W fun e w' => e = .returned (.int .i64 v) ∧ TXc tb s' b' w' ∧ KB tb W w'
set_option maxRecDepth 100000 in
set_option maxHeartbeats 8000000 in
theorem dparse_0 (s0 s1 s2 s3 s4 s5 s6 s7 s8 s9 s10 s11 s12 sE : ByteArray) (b1 b2 b3 b4 b5 b6 b7 b8 b9 b10 b11 b12 bE : Bool) (y q1 mo q2 d q3 h q4 mi q5 se na z : Int) (hy0 : 0 ≤ y) (hy1 : y ≤ 9999) (hm0 : 1 ≤ mo) (hm1 : mo ≤ 12) (hd0 : 1 ≤ d) (hd1 : d ≤ 31) (hh0 : 0 ≤ h) (hh1 : h ≤ 23) (hi0 : 0 ≤ mi) (hi1 : mi ≤ 59) (hs0 : 0 ≤ se) (hs1 : se ≤ 59) (sd : Int) (hsd0 : -1000 ≤ sd) (hsd1 : sd ≤ 4000000) (dy dm dd ck : Int) (u1 u2 u3 u4 : Bool) (rs rn re : Int) (hu1 : (dy != y) = u1) (hu2 : (dm != mo) = u2) (hu3 : (dd != d) = u3) (hu4 : (ck == 0) = u4) (w : World) (H0 : Hid (DNum 4 0 9999 y s0 false s1 b1)) (H1 : Hid (DMark ⟨#[45]⟩ q1 s1 b1 s2 b2)) (H2 : Hid (DNum 2 1 12 mo s2 b2 s3 b3)) (H3 : Hid (DMark ⟨#[45]⟩ q2 s3 b3 s4 b4)) (H4 : Hid (DNum 2 1 31 d s4 b4 s5 b5)) (H5 : Hid (DMark ⟨#[84, 116]⟩ q3 s5 b5 s6 b6)) (H6 : Hid (DNum 2 0 23 h s6 b6 s7 b7)) (H7 : Hid (DMark ⟨#[58]⟩ q4 s7 b7 s8 b8)) (H8 : Hid (DNum 2 0 59 mi s8 b8 s9 b9)) (H9 : Hid (DMark ⟨#[58]⟩ q5 s9 b9 s10 b10)) (H10 : Hid (DNum 2 0 59 se s10 b10 s11 b11)) (H11 : Hid (DFrac na s11 b11 s12 b12)) (H12 : Hid (DMark ⟨#[90, 122, 43, 45]⟩ z s12 b12 sE bE)) (HS : Hid (∀ W, Calls Tryz.prog 75 #[.int .i64 y, .int .i64 mo, .int .i64 d] W fun e w' => e = .returned (.int .i64 sd) ∧ W = w')) (HD : Hid (∀ W, Calls Tryz.prog 74 #[.int .i64 sd] W fun e w' => e = .returned (.tuple #[.int .i64 dy, .int .i64 dm, .int .i64 dd]) ∧ W = w'))
    (HCK : Hid (∀ W, Calls Tryz.prog 76 #[.agg #[.int .i64 ((sd + 60) * 86400 + (3600 * h + 60 * mi + se)), .int .i64 na]] W fun e w' => e = .returned (.int .i64 ck) ∧ Below W.heap.size W w')) (hz43 : (z == 43) = false) (hz45 : (z == 45) = false)
    (hnil : sE.toList = [] → sE = ⟨#[]⟩) (hno : (bE = true ∨ ¬ sE.toList = [] ∨ u1 = true ∨ u2 = true ∨ u3 = true ∨ u4 = false) → (.tuple #[.agg #[.int .i64 rs, .int .i64 rn], .int .i64 re] : Value) = .tuple #[.agg #[.int .i64 0, .int .i64 0], .int .i64 120]) (hyes : sE.toList = [] → bE = false → u1 = false → u2 = false → u3 = false → u4 = true → (.tuple #[.agg #[.int .i64 rs, .int .i64 rn], .int .i64 re] : Value) = .tuple #[.agg #[.int .i64 ((sd + 60) * 86400 + (3600 * h + 60 * mi + se)), .int .i64 na], .int .i64 0]) :
    Calls Tryz.prog 50 #[.string s0] w fun e w' => e = .returned (.tuple #[.agg #[.int .i64 rs, .int .i64 rn], .int .i64 re]) ∧ Below w.heap.size w w' := by
  have hmf : ∀ (fn : Fn) (first cap : Array Value) (w : World), (Instr.makeFunc fn first cap).run Tryz.prog w = .ok (.func fn first cap) w := fun _ _ _ _ => rfl
  obtain ⟨w0, hw0⟩ : ∃ w0 : World, w0 = ((w.alloc (.cells #[.int .i64 0, .int .i64 0] 84 (0, 0))).alloc (.cells #[.string s0, .bool false] 116 (0, 0))) := ⟨_, rfl⟩
  have HT0 : Hid (TXc (w.heap.size + 1) s0 false w0) := Lib.hid (by rw [hw0]; exact heap_new _ _ _ (by simp))
  have HR0 : Hid (w0.heap[w.heap.size]? = some (.cells #[.int .i64 0, .int .i64 0] 84 (0, 0))) := Lib.hid (by rw [hw0]; exact heap_old (heap_new _ _ _ rfl))
  have HB0 : Hid (Below w.heap.size w w0) := Lib.hid (by rw [hw0]; exact ((Below.refl _ _).alloc (Nat.le_refl _) _).alloc (by simp) _)
  have hz0 : w.heap.size + 1 < w0.heap.size := HT0.out.lt
  go_enter Tryz.func50, Tryz.ntmps50
  go_wp2_with fail
  refine scope_once 0 rfl ?_
  go_wp2_with fail
  rw [← hw0]
  clear hw0
  refine (H0.out _ _ HT0.out).mono ?_; rintro e w1 ⟨rfl, ht, hk⟩
  have HT1 := Lib.hid ht
  have HR1 : Hid (w1.heap[w.heap.size]? = some (.cells #[.int .i64 0, .int .i64 0] 84 (0, 0))) := Lib.hid ((hk.2 w.heap.size (by omega) (by omega)).trans HR0.out)
  have HB1 : Hid (Below w.heap.size w w1) := Lib.hid (HB0.out.trans (hk.1.mono (by omega)))
  have hz1 : w.heap.size + 1 < w1.heap.size := ht.lt
  clear ht hk hz0
  go_wp2_with fail
  refine (H1.out _ _ HT1.out).mono ?_; rintro e w2 ⟨rfl, ht, hk⟩
  have HT2 := Lib.hid ht
  have HR2 : Hid (w2.heap[w.heap.size]? = some (.cells #[.int .i64 0, .int .i64 0] 84 (0, 0))) := Lib.hid ((hk.2 w.heap.size (by omega) (by omega)).trans HR1.out)
  have HB2 : Hid (Below w.heap.size w w2) := Lib.hid (HB1.out.trans (hk.1.mono (by omega)))
  have hz2 : w.heap.size + 1 < w2.heap.size := ht.lt
  clear ht hk hz1
  go_wp2_with fail
  refine (H2.out _ _ HT2.out).mono ?_; rintro e w3 ⟨rfl, ht, hk⟩
  have HT3 := Lib.hid ht
  have HR3 : Hid (w3.heap[w.heap.size]? = some (.cells #[.int .i64 0, .int .i64 0] 84 (0, 0))) := Lib.hid ((hk.2 w.heap.size (by omega) (by omega)).trans HR2.out)
  have HB3 : Hid (Below w.heap.size w w3) := Lib.hid (HB2.out.trans (hk.1.mono (by omega)))
  have hz3 : w.heap.size + 1 < w3.heap.size := ht.lt
  clear ht hk hz2
  go_wp2_with fail
  refine (H3.out _ _ HT3.out).mono ?_; rintro e w4 ⟨rfl, ht, hk⟩
  have HT4 := Lib.hid ht
  have HR4 : Hid (w4.heap[w.heap.size]? = some (.cells #[.int .i64 0, .int .i64 0] 84 (0, 0))) := Lib.hid ((hk.2 w.heap.size (by omega) (by omega)).trans HR3.out)
  have HB4 : Hid (Below w.heap.size w w4) := Lib.hid (HB3.out.trans (hk.1.mono (by omega)))
  have hz4 : w.heap.size + 1 < w4.heap.size := ht.lt
  clear ht hk hz3
  go_wp2_with fail
  refine (H4.out _ _ HT4.out).mono ?_; rintro e w5 ⟨rfl, ht, hk⟩
  have HT5 := Lib.hid ht
  have HR5 : Hid (w5.heap[w.heap.size]? = some (.cells #[.int .i64 0, .int .i64 0] 84 (0, 0))) := Lib.hid ((hk.2 w.heap.size (by omega) (by omega)).trans HR4.out)
  have HB5 : Hid (Below w.heap.size w w5) := Lib.hid (HB4.out.trans (hk.1.mono (by omega)))
  have hz5 : w.heap.size + 1 < w5.heap.size := ht.lt
  clear ht hk hz4
  go_wp2_with fail
  refine (H5.out _ _ HT5.out).mono ?_; rintro e w6 ⟨rfl, ht, hk⟩
  have HT6 := Lib.hid ht
  have HR6 : Hid (w6.heap[w.heap.size]? = some (.cells #[.int .i64 0, .int .i64 0] 84 (0, 0))) := Lib.hid ((hk.2 w.heap.size (by omega) (by omega)).trans HR5.out)
  have HB6 : Hid (Below w.heap.size w w6) := Lib.hid (HB5.out.trans (hk.1.mono (by omega)))
  have hz6 : w.heap.size + 1 < w6.heap.size := ht.lt
  clear ht hk hz5
  go_wp2_with fail
  refine (H6.out _ _ HT6.out).mono ?_; rintro e w7 ⟨rfl, ht, hk⟩
  have HT7 := Lib.hid ht
  have HR7 : Hid (w7.heap[w.heap.size]? = some (.cells #[.int .i64 0, .int .i64 0] 84 (0, 0))) := Lib.hid ((hk.2 w.heap.size (by omega) (by omega)).trans HR6.out)
  have HB7 : Hid (Below w.heap.size w w7) := Lib.hid (HB6.out.trans (hk.1.mono (by omega)))
  have hz7 : w.heap.size + 1 < w7.heap.size := ht.lt
  clear ht hk hz6
  go_wp2_with fail
  refine (H7.out _ _ HT7.out).mono ?_; rintro e w8 ⟨rfl, ht, hk⟩
  have HT8 := Lib.hid ht
  have HR8 : Hid (w8.heap[w.heap.size]? = some (.cells #[.int .i64 0, .int .i64 0] 84 (0, 0))) := Lib.hid ((hk.2 w.heap.size (by omega) (by omega)).trans HR7.out)
  have HB8 : Hid (Below w.heap.size w w8) := Lib.hid (HB7.out.trans (hk.1.mono (by omega)))
  have hz8 : w.heap.size + 1 < w8.heap.size := ht.lt
  clear ht hk hz7
  go_wp2_with fail
  refine (H8.out _ _ HT8.out).mono ?_; rintro e w9 ⟨rfl, ht, hk⟩
  have HT9 := Lib.hid ht
  have HR9 : Hid (w9.heap[w.heap.size]? = some (.cells #[.int .i64 0, .int .i64 0] 84 (0, 0))) := Lib.hid ((hk.2 w.heap.size (by omega) (by omega)).trans HR8.out)
  have HB9 : Hid (Below w.heap.size w w9) := Lib.hid (HB8.out.trans (hk.1.mono (by omega)))
  have hz9 : w.heap.size + 1 < w9.heap.size := ht.lt
  clear ht hk hz8
  go_wp2_with fail
  refine (H9.out _ _ HT9.out).mono ?_; rintro e w10 ⟨rfl, ht, hk⟩
  have HT10 := Lib.hid ht
  have HR10 : Hid (w10.heap[w.heap.size]? = some (.cells #[.int .i64 0, .int .i64 0] 84 (0, 0))) := Lib.hid ((hk.2 w.heap.size (by omega) (by omega)).trans HR9.out)
  have HB10 : Hid (Below w.heap.size w w10) := Lib.hid (HB9.out.trans (hk.1.mono (by omega)))
  have hz10 : w.heap.size + 1 < w10.heap.size := ht.lt
  clear ht hk hz9
  go_wp2_with fail
  refine (H10.out _ _ HT10.out).mono ?_; rintro e w11 ⟨rfl, ht, hk⟩
  have HT11 := Lib.hid ht
  have HR11 : Hid (w11.heap[w.heap.size]? = some (.cells #[.int .i64 0, .int .i64 0] 84 (0, 0))) := Lib.hid ((hk.2 w.heap.size (by omega) (by omega)).trans HR10.out)
  have HB11 : Hid (Below w.heap.size w w11) := Lib.hid (HB10.out.trans (hk.1.mono (by omega)))
  have hz11 : w.heap.size + 1 < w11.heap.size := ht.lt
  clear ht hk hz10
  go_wp2_with fail
  refine (H11.out _ _ HT11.out).mono ?_; rintro e w12 ⟨rfl, ht, hk⟩
  have HT12 := Lib.hid ht
  have HR12 : Hid (w12.heap[w.heap.size]? = some (.cells #[.int .i64 0, .int .i64 0] 84 (0, 0))) := Lib.hid ((hk.2 w.heap.size (by omega) (by omega)).trans HR11.out)
  have HB12 : Hid (Below w.heap.size w w12) := Lib.hid (HB11.out.trans (hk.1.mono (by omega)))
  have hz12 : w.heap.size + 1 < w12.heap.size := ht.lt
  clear ht hk hz11
  have e0 : w12.cell? ⟨w.heap.size, 1, none⟩ = some (.int .i64 0) := (Lib.cell_of_heap HR12.out 1).trans rfl
  have e1 : w12.frozen? ⟨w.heap.size, 1, none⟩ = false := Lib.frozen_of_heap HR12.out 1
  have HTv : Hid (TXc (w.heap.size + 1) s12 b12 (w12.setCell ⟨w.heap.size, 1, none⟩ (.int .i64 na))) := Lib.hid (by show _ = _; rw [Below.heap_setCell _ _ _ _ (show w.heap.size + 1 ≠ w.heap.size by omega)]; exact HT12.out)
  have HRv : Hid ((w12.setCell ⟨w.heap.size, 1, none⟩ (.int .i64 na)).heap[w.heap.size]? = some (.cells #[.int .i64 0, .int .i64 na] 84 (0, 0))) := Lib.hid (on_pset HR12.out _ rfl)
  have HBv : Hid (Below w.heap.size w (w12.setCell ⟨w.heap.size, 1, none⟩ (.int .i64 na))) := Lib.hid (HB12.out.setCell (p := ⟨w.heap.size, 1, none⟩) (Nat.le_refl w.heap.size) (.int .i64 na))
  have hzv : w.heap.size + 1 < (w12.setCell ⟨w.heap.size, 1, none⟩ (.int .i64 na)).heap.size := HTv.out.lt
  go_wp2_with fail
  refine (H12.out _ _ HTv.out).mono ?_; rintro e w13 ⟨rfl, ht, hk⟩
  have HT13 := Lib.hid ht
  have HR13 : Hid (w13.heap[w.heap.size]? = some (.cells #[.int .i64 0, .int .i64 na] 84 (0, 0))) := Lib.hid ((hk.2 w.heap.size (by omega) (by omega)).trans HRv.out)
  have HB13 : Hid (Below w.heap.size w w13) := Lib.hid (HBv.out.trans (hk.1.mono (by omega)))
  have hz13 : w.heap.size + 1 < w13.heap.size := ht.lt
  clear ht hk hz12 hzv e0 e1
  have c0 := HT13.out.c0
  have c1 := HT13.out.c1
  have r0 : w13.cell? ⟨w.heap.size, 0, none⟩ = some (.int .i64 0) := (Lib.cell_of_heap HR13.out 0).trans rfl
  have r1 : w13.cell? ⟨w.heap.size, 1, none⟩ = some (.int .i64 na) := (Lib.cell_of_heap HR13.out 1).trans rfl
  have g0 : w13.frozen? ⟨w.heap.size, 0, none⟩ = false := Lib.frozen_of_heap HR13.out 0
  have g1 : w13.frozen? ⟨w.heap.size, 1, none⟩ = false := Lib.frozen_of_heap HR13.out 1
  cases bE with
  | true =>
    have HG := Lib.hid (hno (by simp))
    clear hno
    go_wp2_with fail
    go_step3
    go_wp2_with fail
    refine goto_jump ?_
    go_wp2_with fail
    rw [Exit.noGoto_ret]
    refine bodyPost_ret (v := .tuple #[.agg #[.int .i64 0, .int .i64 0], .int .i64 120]) (by simp [results, Tryz.results50, go_sem, r0, r1, g0, g1]; try rfl) rfl ?_
    exact ⟨by rw [HG.out], (HB13.out.setCell (p := ⟨w.heap.size, 0, none⟩) (Nat.le_refl w.heap.size) _).setCell (p := ⟨w.heap.size, 1, none⟩) (Nat.le_refl w.heap.size) _⟩
  | false =>
    by_cases hsE : sE.toList = []
    · obtain rfl := hnil hsE
      cases u1 with
      | true =>
        have HG := Lib.hid (hno (by simp))
        clear hno hsE
        go_wp2_with fail
        refine (HS.out _).mono ?_; rintro e x1 ⟨rfl, rfl⟩
        go_wp2_with fail
        refine (HD.out _).mono ?_; rintro e x1 ⟨rfl, rfl⟩
        go_wp2_with fail
        go_step3
        go_wp2_with fail
        refine goto_jump ?_
        go_wp2_with fail
        rw [Exit.noGoto_ret]
        refine bodyPost_ret (v := .tuple #[.agg #[.int .i64 0, .int .i64 0], .int .i64 120]) (by simp [results, Tryz.results50, go_sem, r0, r1, g0, g1]; try rfl) rfl ?_
        exact ⟨by rw [HG.out], (HB13.out.setCell (p := ⟨w.heap.size, 0, none⟩) (Nat.le_refl w.heap.size) _).setCell (p := ⟨w.heap.size, 1, none⟩) (Nat.le_refl w.heap.size) _⟩
      | false =>
        cases u2 with
        | true =>
          have HG := Lib.hid (hno (by simp))
          clear hno hsE
          go_wp2_with fail
          refine (HS.out _).mono ?_; rintro e x1 ⟨rfl, rfl⟩
          go_wp2_with fail
          refine (HD.out _).mono ?_; rintro e x1 ⟨rfl, rfl⟩
          go_wp2_with fail
          go_step3
          go_wp2_with fail
          refine goto_jump ?_
          go_wp2_with fail
          rw [Exit.noGoto_ret]
          refine bodyPost_ret (v := .tuple #[.agg #[.int .i64 0, .int .i64 0], .int .i64 120]) (by simp [results, Tryz.results50, go_sem, r0, r1, g0, g1]; try rfl) rfl ?_
          exact ⟨by rw [HG.out], (HB13.out.setCell (p := ⟨w.heap.size, 0, none⟩) (Nat.le_refl w.heap.size) _).setCell (p := ⟨w.heap.size, 1, none⟩) (Nat.le_refl w.heap.size) _⟩
        | false =>
          cases u3 with
          | true =>
            have HG := Lib.hid (hno (by simp))
            clear hno hsE
            go_wp2_with fail
            refine (HS.out _).mono ?_; rintro e x1 ⟨rfl, rfl⟩
            go_wp2_with fail
            refine (HD.out _).mono ?_; rintro e x1 ⟨rfl, rfl⟩
            go_wp2_with fail
            go_step3
            go_wp2_with fail
            refine goto_jump ?_
            go_wp2_with fail
            rw [Exit.noGoto_ret]
            refine bodyPost_ret (v := .tuple #[.agg #[.int .i64 0, .int .i64 0], .int .i64 120]) (by simp [results, Tryz.results50, go_sem, r0, r1, g0, g1]; try rfl) rfl ?_
            exact ⟨by rw [HG.out], (HB13.out.setCell (p := ⟨w.heap.size, 0, none⟩) (Nat.le_refl w.heap.size) _).setCell (p := ⟨w.heap.size, 1, none⟩) (Nat.le_refl w.heap.size) _⟩
          | false =>
            cases u4 with
            | false =>
              have HG := Lib.hid (hno (by simp))
              clear hno hsE
              go_wp2_with fail
              refine (HS.out _).mono ?_; rintro e x1 ⟨rfl, rfl⟩
              go_wp2_with fail
              refine (HD.out _).mono ?_; rintro e x1 ⟨rfl, rfl⟩
              go_wp2_with fail
              refine (HS.out _).mono ?_; rintro e x1 ⟨rfl, rfl⟩
              go_wp2_with fail
              have HRs : Hid ((w13.setCell ⟨w.heap.size, 0, none⟩ (.int .i64 ((sd + 60) * 86400 + (3600 * h + 60 * mi + se)))).heap[w.heap.size]? = some (.cells #[.int .i64 ((sd + 60) * 86400 + (3600 * h + 60 * mi + se)), .int .i64 na] 84 (0, 0))) := Lib.hid (on_pset HR13.out _ rfl)
              have HBs : Hid (Below w.heap.size w (w13.setCell ⟨w.heap.size, 0, none⟩ (.int .i64 ((sd + 60) * 86400 + (3600 * h + 60 * mi + se))))) := Lib.hid (HB13.out.setCell (p := ⟨w.heap.size, 0, none⟩) (Nat.le_refl w.heap.size) _)
              (with_reducible refine (HCK.out _).mono ?_); rintro e x2 ⟨rfl, hb⟩
              have HR2 : Hid (x2.heap[w.heap.size]? = some (.cells #[.int .i64 ((sd + 60) * 86400 + (3600 * h + 60 * mi + se)), .int .i64 na] 84 (0, 0))) := Lib.hid ((hb.block w.heap.size (heap_lt HRs.out)).trans HRs.out)
              have HB2 : Hid (Below w.heap.size w x2) := Lib.hid (HBs.out.trans (hb.mono HBs.out.size))
              clear hb r0 r1 g0 g1 c0 c1
              have r0 : x2.cell? ⟨w.heap.size, 0, none⟩ = some (.int .i64 ((sd + 60) * 86400 + (3600 * h + 60 * mi + se))) := (Lib.cell_of_heap HR2.out 0).trans rfl
              have r1 : x2.cell? ⟨w.heap.size, 1, none⟩ = some (.int .i64 na) := (Lib.cell_of_heap HR2.out 1).trans rfl
              have g0 : x2.frozen? ⟨w.heap.size, 0, none⟩ = false := Lib.frozen_of_heap HR2.out 0
              have g1 : x2.frozen? ⟨w.heap.size, 1, none⟩ = false := Lib.frozen_of_heap HR2.out 1
              go_wp2_with fail
              go_step3
              go_wp2_with fail
              rw [jump_ret]
              refine bodyPost_ret (v := .tuple #[.agg #[.int .i64 0, .int .i64 0], .int .i64 120]) (by simp [results, Tryz.results50, go_sem, r0, r1, g0, g1]; try rfl) rfl ?_
              exact ⟨by rw [HG.out], (HB2.out.setCell (p := ⟨w.heap.size, 0, none⟩) (Nat.le_refl w.heap.size) _).setCell (p := ⟨w.heap.size, 1, none⟩) (Nat.le_refl w.heap.size) _⟩
            | true =>
              have HG := Lib.hid (hyes hsE rfl rfl rfl rfl rfl)
              clear hno hsE
              go_wp2_with fail
              refine (HS.out _).mono ?_; rintro e x1 ⟨rfl, rfl⟩
              go_wp2_with fail
              refine (HD.out _).mono ?_; rintro e x1 ⟨rfl, rfl⟩
              go_wp2_with fail
              refine (HS.out _).mono ?_; rintro e x1 ⟨rfl, rfl⟩
              go_wp2_with fail
              have HRs : Hid ((w13.setCell ⟨w.heap.size, 0, none⟩ (.int .i64 ((sd + 60) * 86400 + (3600 * h + 60 * mi + se)))).heap[w.heap.size]? = some (.cells #[.int .i64 ((sd + 60) * 86400 + (3600 * h + 60 * mi + se)), .int .i64 na] 84 (0, 0))) := Lib.hid (on_pset HR13.out _ rfl)
              have HBs : Hid (Below w.heap.size w (w13.setCell ⟨w.heap.size, 0, none⟩ (.int .i64 ((sd + 60) * 86400 + (3600 * h + 60 * mi + se))))) := Lib.hid (HB13.out.setCell (p := ⟨w.heap.size, 0, none⟩) (Nat.le_refl w.heap.size) _)
              (with_reducible refine (HCK.out _).mono ?_); rintro e x2 ⟨rfl, hb⟩
              have HR2 : Hid (x2.heap[w.heap.size]? = some (.cells #[.int .i64 ((sd + 60) * 86400 + (3600 * h + 60 * mi + se)), .int .i64 na] 84 (0, 0))) := Lib.hid ((hb.block w.heap.size (heap_lt HRs.out)).trans HRs.out)
              have HB2 : Hid (Below w.heap.size w x2) := Lib.hid (HBs.out.trans (hb.mono HBs.out.size))
              clear hb r0 r1 g0 g1 c0 c1
              have r0 : x2.cell? ⟨w.heap.size, 0, none⟩ = some (.int .i64 ((sd + 60) * 86400 + (3600 * h + 60 * mi + se))) := (Lib.cell_of_heap HR2.out 0).trans rfl
              have r1 : x2.cell? ⟨w.heap.size, 1, none⟩ = some (.int .i64 na) := (Lib.cell_of_heap HR2.out 1).trans rfl
              have g0 : x2.frozen? ⟨w.heap.size, 0, none⟩ = false := Lib.frozen_of_heap HR2.out 0
              have g1 : x2.frozen? ⟨w.heap.size, 1, none⟩ = false := Lib.frozen_of_heap HR2.out 1
              go_wp2_with fail
              rw [jump_ret]
              refine bodyPost_ret (v := .tuple #[.agg #[.int .i64 ((sd + 60) * 86400 + (3600 * h + 60 * mi + se)), .int .i64 na], .int .i64 0]) (by simp [results, Tryz.results50, go_sem, r0, r1, g0, g1]; try rfl) rfl ?_
              exact ⟨by rw [HG.out], (HB2.out.setCell (p := ⟨w.heap.size, 0, none⟩) (Nat.le_refl w.heap.size) _).setCell (p := ⟨w.heap.size, 1, none⟩) (Nat.le_refl w.heap.size) _⟩
    · have hs2 : sE.toList.isEmpty = false := by simpa using hsE
      have HG := Lib.hid (hno (by simp [hsE]))
      clear hno
      go_wp2_with fail
      go_step3
      go_wp2_with fail
      refine goto_jump ?_
      go_wp2_with fail
      rw [Exit.noGoto_ret]
      refine bodyPost_ret (v := .tuple #[.agg #[.int .i64 0, .int .i64 0], .int .i64 120]) (by simp [results, Tryz.results50, go_sem, r0, r1, g0, g1]; try rfl) rfl ?_
      exact ⟨by rw [HG.out], (HB13.out.setCell (p := ⟨w.heap.size, 0, none⟩) (Nat.le_refl w.heap.size) _).setCell (p := ⟨w.heap.size, 1, none⟩) (Nat.le_refl w.heap.size) _⟩
end Go.Proofs.YtjhgiojmlkeccaaGreatDoor
