/- scalar's plain, asked, Read, Compare, Add, Long: over contracts. -/
import Derived.Test.YtpkkejcndmcbiaaGreatDoorIf
import Derived.Laws.StructEq
import Derived.LoopN
set_option linter.unusedSimpArgs false
set_option linter.unusedVariables false
namespace Go.Proofs.YtpkkejcndmcbiaaGreatDoor
open Go.RowKit Go.Shelf
theorem st_one (P : Program) (v : Value) (h : v.oneCell' = true) (W : World) (a : Addr) (x : Value) (hc : W.cell? a = some x) (hz : W.frozen? a = false) : (store a v).run P W = .ok () (W.setCell a v) := by
  rw [run_store P W a v _ h]
  simp [hc, hz]
set_option maxRecDepth 100000 in
set_option maxHeartbeats 4000000 in
theorem plain_text (g : Nat) (cap : Array Value) (c a : Value) (l : Bool) (nm tx : ByteArray) (rk : Int) (rn rt : ByteArray) (ri rm : Int) (t : Bool) (w : World) (eg : ∀ args w, (callFunc g args).run Tryz.prog w = .ok (.enter g args) w) (H1 : Hid (DoesU w g (#[.agg #[.int .u8 3, .string ⟨#[]⟩, .string tx, .int .i64 0, .int .i64 0]] ++ cap) (.tuple #[.agg #[.int .u8 rk, .string rn, .string rt, .int .i64 ri, .int .i64 rm], .bool t]))) :
    Calls Tryz.prog 21 #[.agg #[.func (.func g) #[] cap, c, a, .bool l], .agg #[.int .u8 3, .string nm, .string tx, .int .i64 0, .int .i64 0]] w fun e w' => e = .returned (.tuple #[.agg #[.int .u8 rk, .string rn, .string rt, .int .i64 ri, .int .i64 rm], .bool t]) ∧ Below w.heap.size w w' := by
  go_enter Tryz.func21, Tryz.ntmps21
  go_wp2_with fail
  refine (H1.out _ (by first | exact Below.refl _ _ | (go_grown; done))).mono ?_; rintro e w1 ⟨rfl, hb⟩
  have hh0 : w1.heap[w.heap.size]? = some (.cells #[.func (.func g) #[] cap, c, a, .bool l] 42 (0, 0)) := (hb.block _ (by first | omega | (simp; done) | (simp; omega))).trans (heap_old (o' := (.cells #[.int .u8 0, .string ⟨#[]⟩, .string ⟨#[]⟩, .int .i64 0, .int .i64 0] 26 (0, 0))) (heap_old (o' := (.cells #[.int .u8 3, .string ⟨#[]⟩, .string tx, .int .i64 0, .int .i64 0] 26 (0, 0))) (heap_new _ _ _ (by first | rfl | simp))))
  have hh1 : w1.heap[w.heap.size + 1]? = some (.cells #[.int .u8 3, .string ⟨#[]⟩, .string tx, .int .i64 0, .int .i64 0] 26 (0, 0)) := (hb.block _ (by first | omega | (simp; done) | (simp; omega))).trans (heap_old (o' := (.cells #[.int .u8 0, .string ⟨#[]⟩, .string ⟨#[]⟩, .int .i64 0, .int .i64 0] 26 (0, 0))) (heap_new _ _ _ (by first | rfl | simp)))
  have hh2 : w1.heap[w.heap.size + 1 + 1]? = some (.cells #[.int .u8 0, .string ⟨#[]⟩, .string ⟨#[]⟩, .int .i64 0, .int .i64 0] 26 (0, 0)) := (hb.block _ (by first | omega | (simp; done) | (simp; omega))).trans (heap_new _ _ _ (by first | rfl | simp))
  have hbw1 : Below w.heap.size w w1 := (show Below w.heap.size w _ by first | exact Below.refl _ _ | (go_grown; done)).trans (hb.mono (by first | omega | (simp; done) | (simp; omega)))
  clear hb
  have HH0_1 := Lib.hid hh0
  have lt0 := heap_lt hh0
  have c0_0 : w1.cell? ⟨w.heap.size, 0, none⟩ = some (.func (.func g) #[] cap) := by rw [Lib.cell_of_heap hh0]; rfl
  have c0_1 : w1.cell? ⟨w.heap.size, 1, none⟩ = some (c) := by rw [Lib.cell_of_heap hh0]; rfl
  have c0_2 : w1.cell? ⟨w.heap.size, 2, none⟩ = some (a) := by rw [Lib.cell_of_heap hh0]; rfl
  have c0_3 : w1.cell? ⟨w.heap.size, 3, none⟩ = some (.bool l) := by rw [Lib.cell_of_heap hh0]; rfl
  clear hh0
  have HH1_1 := Lib.hid hh1
  have lt1 := heap_lt hh1
  have c1_0 : w1.cell? ⟨w.heap.size + 1, 0, none⟩ = some (.int .u8 3) := by rw [Lib.cell_of_heap hh1]; rfl
  have f1_0 : w1.frozen? ⟨w.heap.size + 1, 0, none⟩ = false := Lib.frozen_of_heap hh1 0
  have c1_1 : w1.cell? ⟨w.heap.size + 1, 1, none⟩ = some (.string ⟨#[]⟩) := by rw [Lib.cell_of_heap hh1]; rfl
  have f1_1 : w1.frozen? ⟨w.heap.size + 1, 1, none⟩ = false := Lib.frozen_of_heap hh1 1
  have c1_2 : w1.cell? ⟨w.heap.size + 1, 2, none⟩ = some (.string tx) := by rw [Lib.cell_of_heap hh1]; rfl
  have f1_2 : w1.frozen? ⟨w.heap.size + 1, 2, none⟩ = false := Lib.frozen_of_heap hh1 2
  have c1_3 : w1.cell? ⟨w.heap.size + 1, 3, none⟩ = some (.int .i64 0) := by rw [Lib.cell_of_heap hh1]; rfl
  have f1_3 : w1.frozen? ⟨w.heap.size + 1, 3, none⟩ = false := Lib.frozen_of_heap hh1 3
  have c1_4 : w1.cell? ⟨w.heap.size + 1, 4, none⟩ = some (.int .i64 0) := by rw [Lib.cell_of_heap hh1]; rfl
  have f1_4 : w1.frozen? ⟨w.heap.size + 1, 4, none⟩ = false := Lib.frozen_of_heap hh1 4
  clear hh1
  have HH2_1 := Lib.hid hh2
  have lt2 := heap_lt hh2
  have c2_0 : w1.cell? ⟨w.heap.size + 1 + 1, 0, none⟩ = some (.int .u8 0) := by rw [Lib.cell_of_heap hh2]; rfl
  have f2_0 : w1.frozen? ⟨w.heap.size + 1 + 1, 0, none⟩ = false := Lib.frozen_of_heap hh2 0
  have c2_1 : w1.cell? ⟨w.heap.size + 1 + 1, 1, none⟩ = some (.string ⟨#[]⟩) := by rw [Lib.cell_of_heap hh2]; rfl
  have f2_1 : w1.frozen? ⟨w.heap.size + 1 + 1, 1, none⟩ = false := Lib.frozen_of_heap hh2 1
  have c2_2 : w1.cell? ⟨w.heap.size + 1 + 1, 2, none⟩ = some (.string ⟨#[]⟩) := by rw [Lib.cell_of_heap hh2]; rfl
  have f2_2 : w1.frozen? ⟨w.heap.size + 1 + 1, 2, none⟩ = false := Lib.frozen_of_heap hh2 2
  have c2_3 : w1.cell? ⟨w.heap.size + 1 + 1, 3, none⟩ = some (.int .i64 0) := by rw [Lib.cell_of_heap hh2]; rfl
  have f2_3 : w1.frozen? ⟨w.heap.size + 1 + 1, 3, none⟩ = false := Lib.frozen_of_heap hh2 3
  have c2_4 : w1.cell? ⟨w.heap.size + 1 + 1, 4, none⟩ = some (.int .i64 0) := by rw [Lib.cell_of_heap hh2]; rfl
  have f2_4 : w1.frozen? ⟨w.heap.size + 1 + 1, 4, none⟩ = false := Lib.frozen_of_heap hh2 4
  clear hh2
  have sz1 := hbw1.size
  have HW1 := Lib.hid hbw1
  go_wp2_with fail
  refine bodyPost_ret (v := .tuple #[.agg #[.int .u8 rk, .string rn, .string rt, .int .i64 ri, .int .i64 rm], .bool t]) (by simp [results, Tryz.results21, go_sem, c2_0, f2_0, c2_1, f2_1, c2_2, f2_2, c2_3, f2_3, c2_4, f2_4]; try rfl) rfl ?_
  exact ⟨rfl, by first | exact HW1.out | (go_grown; done)⟩
set_option maxRecDepth 100000 in
set_option maxHeartbeats 4000000 in
theorem plain_other (g : Nat) (cap : Array Value) (c a : Value) (l : Bool) (k : Int) (nm : ByteArray) (n : Int) (rk : Int) (rn rt : ByteArray) (ri rm : Int) (t : Bool) (w : World) (eg : ∀ args w, (callFunc g args).run Tryz.prog w = .ok (.enter g args) w) (hk : (k != 3) = true) (hk2 : (k == 3) = false) (H1 : Hid (DoesU w g (#[.agg #[.int .u8 k, .string ⟨#[]⟩, .string ⟨#[]⟩, .int .i64 n, .int .i64 0]] ++ cap) (.tuple #[.agg #[.int .u8 rk, .string rn, .string rt, .int .i64 ri, .int .i64 rm], .bool t]))) :
    Calls Tryz.prog 21 #[.agg #[.func (.func g) #[] cap, c, a, .bool l], .agg #[.int .u8 k, .string nm, .string ⟨#[]⟩, .int .i64 n, .int .i64 0]] w fun e w' => e = .returned (.tuple #[.agg #[.int .u8 rk, .string rn, .string rt, .int .i64 ri, .int .i64 rm], .bool t]) ∧ Below w.heap.size w w' := by
  go_enter Tryz.func21, Tryz.ntmps21
  go_wp2_with fail
  refine (H1.out _ (by first | exact Below.refl _ _ | (go_grown; done))).mono ?_; rintro e w1 ⟨rfl, hb⟩
  have hh0 : w1.heap[w.heap.size]? = some (.cells #[.func (.func g) #[] cap, c, a, .bool l] 42 (0, 0)) := (hb.block _ (by first | omega | (simp; done) | (simp; omega))).trans (heap_old (o' := (.cells #[.int .u8 0, .string ⟨#[]⟩, .string ⟨#[]⟩, .int .i64 0, .int .i64 0] 26 (0, 0))) (heap_old (o' := (.cells #[.int .u8 k, .string ⟨#[]⟩, .string ⟨#[]⟩, .int .i64 n, .int .i64 0] 26 (0, 0))) (heap_new _ _ _ (by first | rfl | simp))))
  have hh1 : w1.heap[w.heap.size + 1]? = some (.cells #[.int .u8 k, .string ⟨#[]⟩, .string ⟨#[]⟩, .int .i64 n, .int .i64 0] 26 (0, 0)) := (hb.block _ (by first | omega | (simp; done) | (simp; omega))).trans (heap_old (o' := (.cells #[.int .u8 0, .string ⟨#[]⟩, .string ⟨#[]⟩, .int .i64 0, .int .i64 0] 26 (0, 0))) (heap_new _ _ _ (by first | rfl | simp)))
  have hh2 : w1.heap[w.heap.size + 1 + 1]? = some (.cells #[.int .u8 0, .string ⟨#[]⟩, .string ⟨#[]⟩, .int .i64 0, .int .i64 0] 26 (0, 0)) := (hb.block _ (by first | omega | (simp; done) | (simp; omega))).trans (heap_new _ _ _ (by first | rfl | simp))
  have hbw1 : Below w.heap.size w w1 := (show Below w.heap.size w _ by first | exact Below.refl _ _ | (go_grown; done)).trans (hb.mono (by first | omega | (simp; done) | (simp; omega)))
  clear hb
  have HH0_1 := Lib.hid hh0
  have lt0 := heap_lt hh0
  have c0_0 : w1.cell? ⟨w.heap.size, 0, none⟩ = some (.func (.func g) #[] cap) := by rw [Lib.cell_of_heap hh0]; rfl
  have c0_1 : w1.cell? ⟨w.heap.size, 1, none⟩ = some (c) := by rw [Lib.cell_of_heap hh0]; rfl
  have c0_2 : w1.cell? ⟨w.heap.size, 2, none⟩ = some (a) := by rw [Lib.cell_of_heap hh0]; rfl
  have c0_3 : w1.cell? ⟨w.heap.size, 3, none⟩ = some (.bool l) := by rw [Lib.cell_of_heap hh0]; rfl
  clear hh0
  have HH1_1 := Lib.hid hh1
  have lt1 := heap_lt hh1
  have c1_0 : w1.cell? ⟨w.heap.size + 1, 0, none⟩ = some (.int .u8 k) := by rw [Lib.cell_of_heap hh1]; rfl
  have f1_0 : w1.frozen? ⟨w.heap.size + 1, 0, none⟩ = false := Lib.frozen_of_heap hh1 0
  have c1_1 : w1.cell? ⟨w.heap.size + 1, 1, none⟩ = some (.string ⟨#[]⟩) := by rw [Lib.cell_of_heap hh1]; rfl
  have f1_1 : w1.frozen? ⟨w.heap.size + 1, 1, none⟩ = false := Lib.frozen_of_heap hh1 1
  have c1_2 : w1.cell? ⟨w.heap.size + 1, 2, none⟩ = some (.string ⟨#[]⟩) := by rw [Lib.cell_of_heap hh1]; rfl
  have f1_2 : w1.frozen? ⟨w.heap.size + 1, 2, none⟩ = false := Lib.frozen_of_heap hh1 2
  have c1_3 : w1.cell? ⟨w.heap.size + 1, 3, none⟩ = some (.int .i64 n) := by rw [Lib.cell_of_heap hh1]; rfl
  have f1_3 : w1.frozen? ⟨w.heap.size + 1, 3, none⟩ = false := Lib.frozen_of_heap hh1 3
  have c1_4 : w1.cell? ⟨w.heap.size + 1, 4, none⟩ = some (.int .i64 0) := by rw [Lib.cell_of_heap hh1]; rfl
  have f1_4 : w1.frozen? ⟨w.heap.size + 1, 4, none⟩ = false := Lib.frozen_of_heap hh1 4
  clear hh1
  have HH2_1 := Lib.hid hh2
  have lt2 := heap_lt hh2
  have c2_0 : w1.cell? ⟨w.heap.size + 1 + 1, 0, none⟩ = some (.int .u8 0) := by rw [Lib.cell_of_heap hh2]; rfl
  have f2_0 : w1.frozen? ⟨w.heap.size + 1 + 1, 0, none⟩ = false := Lib.frozen_of_heap hh2 0
  have c2_1 : w1.cell? ⟨w.heap.size + 1 + 1, 1, none⟩ = some (.string ⟨#[]⟩) := by rw [Lib.cell_of_heap hh2]; rfl
  have f2_1 : w1.frozen? ⟨w.heap.size + 1 + 1, 1, none⟩ = false := Lib.frozen_of_heap hh2 1
  have c2_2 : w1.cell? ⟨w.heap.size + 1 + 1, 2, none⟩ = some (.string ⟨#[]⟩) := by rw [Lib.cell_of_heap hh2]; rfl
  have f2_2 : w1.frozen? ⟨w.heap.size + 1 + 1, 2, none⟩ = false := Lib.frozen_of_heap hh2 2
  have c2_3 : w1.cell? ⟨w.heap.size + 1 + 1, 3, none⟩ = some (.int .i64 0) := by rw [Lib.cell_of_heap hh2]; rfl
  have f2_3 : w1.frozen? ⟨w.heap.size + 1 + 1, 3, none⟩ = false := Lib.frozen_of_heap hh2 3
  have c2_4 : w1.cell? ⟨w.heap.size + 1 + 1, 4, none⟩ = some (.int .i64 0) := by rw [Lib.cell_of_heap hh2]; rfl
  have f2_4 : w1.frozen? ⟨w.heap.size + 1 + 1, 4, none⟩ = false := Lib.frozen_of_heap hh2 4
  clear hh2
  have sz1 := hbw1.size
  have HW1 := Lib.hid hbw1
  go_wp2_with fail
  refine bodyPost_ret (v := .tuple #[.agg #[.int .u8 rk, .string rn, .string rt, .int .i64 ri, .int .i64 rm], .bool t]) (by simp [results, Tryz.results21, go_sem, c2_0, f2_0, c2_1, f2_1, c2_2, f2_2, c2_3, f2_3, c2_4, f2_4]; try rfl) rfl ?_
  exact ⟨rfl, by first | exact HW1.out | (go_grown; done)⟩
set_option maxRecDepth 100000 in
set_option maxHeartbeats 4000000 in
theorem asked_no (f0 c a : Value) (l : Bool) (s : Option Addr) (n k : Nat) (w : World) :
    Calls Tryz.prog 14 #[.agg #[f0, c, a, .bool l], .bool false, .slice s n k] w fun e w' => e = .returned (.int .i64 6) ∧ Below w.heap.size w w' := by
  go_enter Tryz.func14, Tryz.ntmps14
  go_wp2_with fail
  go_ret
  exact ⟨rfl, by go_grown⟩
set_option maxRecDepth 100000 in
set_option maxHeartbeats 4000000 in
theorem asked_1 (g : Nat) (cap : Array Value) (c a : Value) (l : Bool) (k1 : Int) (nm1 tx1 : ByteArray) (n1 m1 : Int) (rb : Nat) (w : World) (HROW : Hid (w.heap[rb]? = some (.cells #[.int .u8 k1, .string nm1, .string tx1, .int .i64 n1, .int .i64 m1] 26 (0, 0)))) (H1 : Hid (DoesU w 21 #[.agg #[.func (.func g) #[] cap, c, a, .bool l], .agg #[.int .u8 k1, .string nm1, .string tx1, .int .i64 n1, .int .i64 m1]] (.tuple #[.agg #[.int .u8 k1, .string nm1, .string tx1, .int .i64 n1, .int .i64 m1], .bool true]))) :
    Calls Tryz.prog 14 #[.agg #[.func (.func g) #[] cap, c, a, .bool l], .bool true, .slice (some ⟨rb, 0, none⟩) 1 1] w fun e w' => e = .returned (.int .i64 0) ∧ Below w.heap.size w w' := by
  have hlt : rb < w.heap.size := heap_lt HROW.out
  have q0 : w.cell? ⟨rb, 0, none⟩ = some (.int .u8 k1) := (Lib.cell_of_heap HROW.out 0).trans rfl
  have q1 : w.cell? ⟨rb, 1, none⟩ = some (.string nm1) := (Lib.cell_of_heap HROW.out 1).trans rfl
  have q2 : w.cell? ⟨rb, 2, none⟩ = some (.string tx1) := (Lib.cell_of_heap HROW.out 2).trans rfl
  have q3 : w.cell? ⟨rb, 3, none⟩ = some (.int .i64 n1) := (Lib.cell_of_heap HROW.out 3).trans rfl
  have q4 : w.cell? ⟨rb, 4, none⟩ = some (.int .i64 m1) := (Lib.cell_of_heap HROW.out 4).trans rfl
  go_enter Tryz.func14, Tryz.ntmps14
  go_wp2_with fail
  refine wp_loop_rounds 2 ?_
  rw [rounds_succ]
  go_wp2_with fail
  refine (H1.out _ (by first | exact Below.refl _ _ | (go_grown; done))).mono ?_; rintro e w1 ⟨rfl, hb⟩
  have hh0 : w1.heap[w.heap.size]? = some (.cells #[.func (.func g) #[] cap, c, a, .bool l] 42 (0, 0)) := (hb.block _ (by first | omega | (simp; done) | (simp; omega))).trans (heap_old (o' := (.cells #[.int .u8 k1, .string nm1, .string tx1, .int .i64 n1, .int .i64 m1] 26 (0, 0))) (heap_new _ _ _ (by first | rfl | simp)))
  have hh1 : w1.heap[w.heap.size + 1]? = some (.cells #[.int .u8 k1, .string nm1, .string tx1, .int .i64 n1, .int .i64 m1] 26 (0, 0)) := (hb.block _ (by first | omega | (simp; done) | (simp; omega))).trans (heap_new _ _ _ (by first | rfl | simp))
  have hbw1 : Below w.heap.size w w1 := (show Below w.heap.size w _ by first | exact Below.refl _ _ | (go_grown; done)).trans (hb.mono (by first | omega | (simp; done) | (simp; omega)))
  clear hb
  have HH0_1 := Lib.hid hh0
  have lt0 := heap_lt hh0
  have c0_0 : w1.cell? ⟨w.heap.size, 0, none⟩ = some (.func (.func g) #[] cap) := by rw [Lib.cell_of_heap hh0]; rfl
  have c0_1 : w1.cell? ⟨w.heap.size, 1, none⟩ = some (c) := by rw [Lib.cell_of_heap hh0]; rfl
  have c0_2 : w1.cell? ⟨w.heap.size, 2, none⟩ = some (a) := by rw [Lib.cell_of_heap hh0]; rfl
  have c0_3 : w1.cell? ⟨w.heap.size, 3, none⟩ = some (.bool l) := by rw [Lib.cell_of_heap hh0]; rfl
  clear hh0
  have HH1_1 := Lib.hid hh1
  have lt1 := heap_lt hh1
  have c1_0 : w1.cell? ⟨w.heap.size + 1, 0, none⟩ = some (.int .u8 k1) := by rw [Lib.cell_of_heap hh1]; rfl
  have c1_1 : w1.cell? ⟨w.heap.size + 1, 1, none⟩ = some (.string nm1) := by rw [Lib.cell_of_heap hh1]; rfl
  have c1_2 : w1.cell? ⟨w.heap.size + 1, 2, none⟩ = some (.string tx1) := by rw [Lib.cell_of_heap hh1]; rfl
  have c1_3 : w1.cell? ⟨w.heap.size + 1, 3, none⟩ = some (.int .i64 n1) := by rw [Lib.cell_of_heap hh1]; rfl
  have c1_4 : w1.cell? ⟨w.heap.size + 1, 4, none⟩ = some (.int .i64 m1) := by rw [Lib.cell_of_heap hh1]; rfl
  clear hh1
  have sz1 := hbw1.size
  have HW1 := Lib.hid hbw1
  clear q0 q1 q2 q3 q4
  have hl1 : rb < w1.heap.size := Nat.lt_of_lt_of_le hlt HW1.out.size
  have q0 : w1.cell? ⟨rb, 0, none⟩ = some (.int .u8 k1) := (HW1.out.cell (p := ⟨rb, 0, none⟩) hlt).trans ((Lib.cell_of_heap HROW.out 0).trans rfl)
  have q1 : w1.cell? ⟨rb, 1, none⟩ = some (.string nm1) := (HW1.out.cell (p := ⟨rb, 1, none⟩) hlt).trans ((Lib.cell_of_heap HROW.out 1).trans rfl)
  have q2 : w1.cell? ⟨rb, 2, none⟩ = some (.string tx1) := (HW1.out.cell (p := ⟨rb, 2, none⟩) hlt).trans ((Lib.cell_of_heap HROW.out 2).trans rfl)
  have q3 : w1.cell? ⟨rb, 3, none⟩ = some (.int .i64 n1) := (HW1.out.cell (p := ⟨rb, 3, none⟩) hlt).trans ((Lib.cell_of_heap HROW.out 3).trans rfl)
  have q4 : w1.cell? ⟨rb, 4, none⟩ = some (.int .i64 m1) := (HW1.out.cell (p := ⟨rb, 4, none⟩) hlt).trans ((Lib.cell_of_heap HROW.out 4).trans rfl)
  go_wp2_with fail
  rw [rounds_succ]
  go_wp2_with fail
  go_ret
  exact ⟨rfl, by first | exact HW1.out | (go_grown; done)⟩
set_option maxRecDepth 100000 in
set_option maxHeartbeats 4000000 in
theorem asked_2 (g : Nat) (cap : Array Value) (c a : Value) (l : Bool) (k1 : Int) (nm1 tx1 : ByteArray) (n1 m1 : Int) (k2 : Int) (nm2 tx2 : ByteArray) (n2 m2 : Int) (rb : Nat) (w : World) (HROW : Hid (w.heap[rb]? = some (.cells #[.int .u8 k1, .string nm1, .string tx1, .int .i64 n1, .int .i64 m1, .int .u8 k2, .string nm2, .string tx2, .int .i64 n2, .int .i64 m2] 26 (0, 0)))) (H1 : Hid (DoesU w 21 #[.agg #[.func (.func g) #[] cap, c, a, .bool l], .agg #[.int .u8 k1, .string nm1, .string tx1, .int .i64 n1, .int .i64 m1]] (.tuple #[.agg #[.int .u8 k1, .string nm1, .string tx1, .int .i64 n1, .int .i64 m1], .bool true]))) (H2 : Hid (DoesU w 21 #[.agg #[.func (.func g) #[] cap, c, a, .bool l], .agg #[.int .u8 k2, .string nm2, .string tx2, .int .i64 n2, .int .i64 m2]] (.tuple #[.agg #[.int .u8 k2, .string nm2, .string tx2, .int .i64 n2, .int .i64 m2], .bool true]))) :
    Calls Tryz.prog 14 #[.agg #[.func (.func g) #[] cap, c, a, .bool l], .bool true, .slice (some ⟨rb, 0, none⟩) 2 2] w fun e w' => e = .returned (.int .i64 0) ∧ Below w.heap.size w w' := by
  have hlt : rb < w.heap.size := heap_lt HROW.out
  have q0 : w.cell? ⟨rb, 0, none⟩ = some (.int .u8 k1) := (Lib.cell_of_heap HROW.out 0).trans rfl
  have q1 : w.cell? ⟨rb, 1, none⟩ = some (.string nm1) := (Lib.cell_of_heap HROW.out 1).trans rfl
  have q2 : w.cell? ⟨rb, 2, none⟩ = some (.string tx1) := (Lib.cell_of_heap HROW.out 2).trans rfl
  have q3 : w.cell? ⟨rb, 3, none⟩ = some (.int .i64 n1) := (Lib.cell_of_heap HROW.out 3).trans rfl
  have q4 : w.cell? ⟨rb, 4, none⟩ = some (.int .i64 m1) := (Lib.cell_of_heap HROW.out 4).trans rfl
  have q5 : w.cell? ⟨rb, 5, none⟩ = some (.int .u8 k2) := (Lib.cell_of_heap HROW.out 5).trans rfl
  have q6 : w.cell? ⟨rb, 6, none⟩ = some (.string nm2) := (Lib.cell_of_heap HROW.out 6).trans rfl
  have q7 : w.cell? ⟨rb, 7, none⟩ = some (.string tx2) := (Lib.cell_of_heap HROW.out 7).trans rfl
  have q8 : w.cell? ⟨rb, 8, none⟩ = some (.int .i64 n2) := (Lib.cell_of_heap HROW.out 8).trans rfl
  have q9 : w.cell? ⟨rb, 9, none⟩ = some (.int .i64 m2) := (Lib.cell_of_heap HROW.out 9).trans rfl
  go_enter Tryz.func14, Tryz.ntmps14
  go_wp2_with fail
  refine wp_loop_rounds 3 ?_
  rw [rounds_succ]
  go_wp2_with fail
  refine (H1.out _ (by first | exact Below.refl _ _ | (go_grown; done))).mono ?_; rintro e w1 ⟨rfl, hb⟩
  have hh0 : w1.heap[w.heap.size]? = some (.cells #[.func (.func g) #[] cap, c, a, .bool l] 42 (0, 0)) := (hb.block _ (by first | omega | (simp; done) | (simp; omega))).trans (heap_old (o' := (.cells #[.int .u8 k1, .string nm1, .string tx1, .int .i64 n1, .int .i64 m1] 26 (0, 0))) (heap_new _ _ _ (by first | rfl | simp)))
  have hh1 : w1.heap[w.heap.size + 1]? = some (.cells #[.int .u8 k1, .string nm1, .string tx1, .int .i64 n1, .int .i64 m1] 26 (0, 0)) := (hb.block _ (by first | omega | (simp; done) | (simp; omega))).trans (heap_new _ _ _ (by first | rfl | simp))
  have hbw1 : Below w.heap.size w w1 := (show Below w.heap.size w _ by first | exact Below.refl _ _ | (go_grown; done)).trans (hb.mono (by first | omega | (simp; done) | (simp; omega)))
  clear hb
  have HH0_1 := Lib.hid hh0
  have lt0 := heap_lt hh0
  have c0_0 : w1.cell? ⟨w.heap.size, 0, none⟩ = some (.func (.func g) #[] cap) := by rw [Lib.cell_of_heap hh0]; rfl
  have c0_1 : w1.cell? ⟨w.heap.size, 1, none⟩ = some (c) := by rw [Lib.cell_of_heap hh0]; rfl
  have c0_2 : w1.cell? ⟨w.heap.size, 2, none⟩ = some (a) := by rw [Lib.cell_of_heap hh0]; rfl
  have c0_3 : w1.cell? ⟨w.heap.size, 3, none⟩ = some (.bool l) := by rw [Lib.cell_of_heap hh0]; rfl
  clear hh0
  have HH1_1 := Lib.hid hh1
  have lt1 := heap_lt hh1
  have c1_0 : w1.cell? ⟨w.heap.size + 1, 0, none⟩ = some (.int .u8 k1) := by rw [Lib.cell_of_heap hh1]; rfl
  have c1_1 : w1.cell? ⟨w.heap.size + 1, 1, none⟩ = some (.string nm1) := by rw [Lib.cell_of_heap hh1]; rfl
  have c1_2 : w1.cell? ⟨w.heap.size + 1, 2, none⟩ = some (.string tx1) := by rw [Lib.cell_of_heap hh1]; rfl
  have c1_3 : w1.cell? ⟨w.heap.size + 1, 3, none⟩ = some (.int .i64 n1) := by rw [Lib.cell_of_heap hh1]; rfl
  have c1_4 : w1.cell? ⟨w.heap.size + 1, 4, none⟩ = some (.int .i64 m1) := by rw [Lib.cell_of_heap hh1]; rfl
  clear hh1
  have sz1 := hbw1.size
  have HW1 := Lib.hid hbw1
  clear q0 q1 q2 q3 q4 q5 q6 q7 q8 q9
  have hl1 : rb < w1.heap.size := Nat.lt_of_lt_of_le hlt HW1.out.size
  have q0 : w1.cell? ⟨rb, 0, none⟩ = some (.int .u8 k1) := (HW1.out.cell (p := ⟨rb, 0, none⟩) hlt).trans ((Lib.cell_of_heap HROW.out 0).trans rfl)
  have q1 : w1.cell? ⟨rb, 1, none⟩ = some (.string nm1) := (HW1.out.cell (p := ⟨rb, 1, none⟩) hlt).trans ((Lib.cell_of_heap HROW.out 1).trans rfl)
  have q2 : w1.cell? ⟨rb, 2, none⟩ = some (.string tx1) := (HW1.out.cell (p := ⟨rb, 2, none⟩) hlt).trans ((Lib.cell_of_heap HROW.out 2).trans rfl)
  have q3 : w1.cell? ⟨rb, 3, none⟩ = some (.int .i64 n1) := (HW1.out.cell (p := ⟨rb, 3, none⟩) hlt).trans ((Lib.cell_of_heap HROW.out 3).trans rfl)
  have q4 : w1.cell? ⟨rb, 4, none⟩ = some (.int .i64 m1) := (HW1.out.cell (p := ⟨rb, 4, none⟩) hlt).trans ((Lib.cell_of_heap HROW.out 4).trans rfl)
  have q5 : w1.cell? ⟨rb, 5, none⟩ = some (.int .u8 k2) := (HW1.out.cell (p := ⟨rb, 5, none⟩) hlt).trans ((Lib.cell_of_heap HROW.out 5).trans rfl)
  have q6 : w1.cell? ⟨rb, 6, none⟩ = some (.string nm2) := (HW1.out.cell (p := ⟨rb, 6, none⟩) hlt).trans ((Lib.cell_of_heap HROW.out 6).trans rfl)
  have q7 : w1.cell? ⟨rb, 7, none⟩ = some (.string tx2) := (HW1.out.cell (p := ⟨rb, 7, none⟩) hlt).trans ((Lib.cell_of_heap HROW.out 7).trans rfl)
  have q8 : w1.cell? ⟨rb, 8, none⟩ = some (.int .i64 n2) := (HW1.out.cell (p := ⟨rb, 8, none⟩) hlt).trans ((Lib.cell_of_heap HROW.out 8).trans rfl)
  have q9 : w1.cell? ⟨rb, 9, none⟩ = some (.int .i64 m2) := (HW1.out.cell (p := ⟨rb, 9, none⟩) hlt).trans ((Lib.cell_of_heap HROW.out 9).trans rfl)
  go_wp2_with fail
  rw [rounds_succ]
  go_wp2_with fail
  refine (H2.out _ (by first | exact HW1.out | exact HW1.out.trans ⟨rfl, rfl, rfl, Nat.le_refl _, fun _ _ => rfl⟩ | (go_grown; done))).mono ?_; rintro e w2 ⟨rfl, hb⟩
  have hv0 := heap_old (o' := (.cells #[.int .u8 k2, .string nm2, .string tx2, .int .i64 n2, .int .i64 m2] 26 (0, 0))) (heap_old (o' := (.cells #[.int .u8 k1, .string nm1, .string tx1, .int .i64 n1, .int .i64 m1] 26 (0, 0))) (HH0_1.out))
  have hh0 : w2.heap[w.heap.size]? = some (.cells #[.func (.func g) #[] cap, c, a, .bool l] 42 (0, 0)) := (hb.block _ (heap_lt hv0)).trans hv0
  clear hv0
  have hv1 := heap_old (o' := (.cells #[.int .u8 k2, .string nm2, .string tx2, .int .i64 n2, .int .i64 m2] 26 (0, 0))) (heap_old (o' := (.cells #[.int .u8 k1, .string nm1, .string tx1, .int .i64 n1, .int .i64 m1] 26 (0, 0))) (HH1_1.out))
  have hh1 : w2.heap[w.heap.size + 1]? = some (.cells #[.int .u8 k1, .string nm1, .string tx1, .int .i64 n1, .int .i64 m1] 26 (0, 0)) := (hb.block _ (heap_lt hv1)).trans hv1
  clear hv1
  have hh2 : w2.heap[w1.heap.size]? = some (.cells #[.int .u8 k1, .string nm1, .string tx1, .int .i64 n1, .int .i64 m1] 26 (0, 0)) := (hb.block _ (by first | omega | (simp; done) | (simp; omega))).trans (heap_old (o' := (.cells #[.int .u8 k2, .string nm2, .string tx2, .int .i64 n2, .int .i64 m2] 26 (0, 0))) (heap_new _ _ _ (by first | rfl | simp)))
  have hh3 : w2.heap[w1.heap.size + 1]? = some (.cells #[.int .u8 k2, .string nm2, .string tx2, .int .i64 n2, .int .i64 m2] 26 (0, 0)) := (hb.block _ (by first | omega | (simp; done) | (simp; omega))).trans (heap_new _ _ _ (by first | rfl | simp))
  have hbw2 : Below w.heap.size w w2 := (show Below w.heap.size w _ by first | exact HW1.out.trans ⟨rfl, rfl, rfl, Nat.le_refl _, fun _ _ => rfl⟩ | exact HW1.out | (go_grown; done)).trans (hb.mono (by first | omega | (simp; done) | (simp; omega)))
  clear hb lt0 c0_0 c0_1 c0_2 c0_3 lt1 c1_0 c1_1 c1_2 c1_3 c1_4 hbw1
  have HH0_2 := Lib.hid hh0
  have lt0 := heap_lt hh0
  have c0_0 : w2.cell? ⟨w.heap.size, 0, none⟩ = some (.func (.func g) #[] cap) := by rw [Lib.cell_of_heap hh0]; rfl
  have c0_1 : w2.cell? ⟨w.heap.size, 1, none⟩ = some (c) := by rw [Lib.cell_of_heap hh0]; rfl
  have c0_2 : w2.cell? ⟨w.heap.size, 2, none⟩ = some (a) := by rw [Lib.cell_of_heap hh0]; rfl
  have c0_3 : w2.cell? ⟨w.heap.size, 3, none⟩ = some (.bool l) := by rw [Lib.cell_of_heap hh0]; rfl
  clear hh0
  have HH1_2 := Lib.hid hh1
  have lt1 := heap_lt hh1
  have c1_0 : w2.cell? ⟨w.heap.size + 1, 0, none⟩ = some (.int .u8 k1) := by rw [Lib.cell_of_heap hh1]; rfl
  have c1_1 : w2.cell? ⟨w.heap.size + 1, 1, none⟩ = some (.string nm1) := by rw [Lib.cell_of_heap hh1]; rfl
  have c1_2 : w2.cell? ⟨w.heap.size + 1, 2, none⟩ = some (.string tx1) := by rw [Lib.cell_of_heap hh1]; rfl
  have c1_3 : w2.cell? ⟨w.heap.size + 1, 3, none⟩ = some (.int .i64 n1) := by rw [Lib.cell_of_heap hh1]; rfl
  have c1_4 : w2.cell? ⟨w.heap.size + 1, 4, none⟩ = some (.int .i64 m1) := by rw [Lib.cell_of_heap hh1]; rfl
  clear hh1
  have HH2_2 := Lib.hid hh2
  have lt2 := heap_lt hh2
  have c2_0 : w2.cell? ⟨w1.heap.size, 0, none⟩ = some (.int .u8 k1) := by rw [Lib.cell_of_heap hh2]; rfl
  have c2_1 : w2.cell? ⟨w1.heap.size, 1, none⟩ = some (.string nm1) := by rw [Lib.cell_of_heap hh2]; rfl
  have c2_2 : w2.cell? ⟨w1.heap.size, 2, none⟩ = some (.string tx1) := by rw [Lib.cell_of_heap hh2]; rfl
  have c2_3 : w2.cell? ⟨w1.heap.size, 3, none⟩ = some (.int .i64 n1) := by rw [Lib.cell_of_heap hh2]; rfl
  have c2_4 : w2.cell? ⟨w1.heap.size, 4, none⟩ = some (.int .i64 m1) := by rw [Lib.cell_of_heap hh2]; rfl
  clear hh2
  have HH3_2 := Lib.hid hh3
  have lt3 := heap_lt hh3
  have c3_0 : w2.cell? ⟨w1.heap.size + 1, 0, none⟩ = some (.int .u8 k2) := by rw [Lib.cell_of_heap hh3]; rfl
  have c3_1 : w2.cell? ⟨w1.heap.size + 1, 1, none⟩ = some (.string nm2) := by rw [Lib.cell_of_heap hh3]; rfl
  have c3_2 : w2.cell? ⟨w1.heap.size + 1, 2, none⟩ = some (.string tx2) := by rw [Lib.cell_of_heap hh3]; rfl
  have c3_3 : w2.cell? ⟨w1.heap.size + 1, 3, none⟩ = some (.int .i64 n2) := by rw [Lib.cell_of_heap hh3]; rfl
  have c3_4 : w2.cell? ⟨w1.heap.size + 1, 4, none⟩ = some (.int .i64 m2) := by rw [Lib.cell_of_heap hh3]; rfl
  clear hh3
  have sz2 := hbw2.size
  have HW2 := Lib.hid hbw2
  clear q0 q1 q2 q3 q4 q5 q6 q7 q8 q9
  have hl2 : rb < w2.heap.size := Nat.lt_of_lt_of_le hlt HW2.out.size
  have q0 : w2.cell? ⟨rb, 0, none⟩ = some (.int .u8 k1) := (HW2.out.cell (p := ⟨rb, 0, none⟩) hlt).trans ((Lib.cell_of_heap HROW.out 0).trans rfl)
  have q1 : w2.cell? ⟨rb, 1, none⟩ = some (.string nm1) := (HW2.out.cell (p := ⟨rb, 1, none⟩) hlt).trans ((Lib.cell_of_heap HROW.out 1).trans rfl)
  have q2 : w2.cell? ⟨rb, 2, none⟩ = some (.string tx1) := (HW2.out.cell (p := ⟨rb, 2, none⟩) hlt).trans ((Lib.cell_of_heap HROW.out 2).trans rfl)
  have q3 : w2.cell? ⟨rb, 3, none⟩ = some (.int .i64 n1) := (HW2.out.cell (p := ⟨rb, 3, none⟩) hlt).trans ((Lib.cell_of_heap HROW.out 3).trans rfl)
  have q4 : w2.cell? ⟨rb, 4, none⟩ = some (.int .i64 m1) := (HW2.out.cell (p := ⟨rb, 4, none⟩) hlt).trans ((Lib.cell_of_heap HROW.out 4).trans rfl)
  have q5 : w2.cell? ⟨rb, 5, none⟩ = some (.int .u8 k2) := (HW2.out.cell (p := ⟨rb, 5, none⟩) hlt).trans ((Lib.cell_of_heap HROW.out 5).trans rfl)
  have q6 : w2.cell? ⟨rb, 6, none⟩ = some (.string nm2) := (HW2.out.cell (p := ⟨rb, 6, none⟩) hlt).trans ((Lib.cell_of_heap HROW.out 6).trans rfl)
  have q7 : w2.cell? ⟨rb, 7, none⟩ = some (.string tx2) := (HW2.out.cell (p := ⟨rb, 7, none⟩) hlt).trans ((Lib.cell_of_heap HROW.out 7).trans rfl)
  have q8 : w2.cell? ⟨rb, 8, none⟩ = some (.int .i64 n2) := (HW2.out.cell (p := ⟨rb, 8, none⟩) hlt).trans ((Lib.cell_of_heap HROW.out 8).trans rfl)
  have q9 : w2.cell? ⟨rb, 9, none⟩ = some (.int .i64 m2) := (HW2.out.cell (p := ⟨rb, 9, none⟩) hlt).trans ((Lib.cell_of_heap HROW.out 9).trans rfl)
  go_wp2_with fail
  rw [rounds_succ]
  go_wp2_with fail
  go_ret
  exact ⟨rfl, by first | exact HW2.out | (go_grown; done)⟩
end Go.Proofs.YtpkkejcndmcbiaaGreatDoor
