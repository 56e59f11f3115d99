/- scalar's Compare, Add, Long: over contracts. -/
import Derived.Test.YtpkkejcndmcbiaaGreatDoorIi
set_option linter.unusedSimpArgs false
set_option linter.unusedVariables false
namespace Go.Proofs.YtpkkejcndmcbiaaGreatDoor
open Go.RowKit Go.Shelf
theorem nil_cmp (w : World) : (binOp .neq 39 .nilFunc .nilFunc).run Tryz.prog w = .ok (.bool false) w := by kernel_rfl
theorem fun_cmp (w : World) (g : Nat) : (binOp .neq 39 (.func (.func g) #[] #[]) .nilFunc).run Tryz.prog w = .ok (.bool true) w := by kernel_rfl
theorem nil_add (w : World) : (binOp .neq 40 .nilFunc .nilFunc).run Tryz.prog w = .ok (.bool false) w := by kernel_rfl
theorem fun_add (w : World) (g : Nat) : (binOp .neq 40 (.func (.func g) #[] #[]) .nilFunc).run Tryz.prog w = .ok (.bool true) w := by kernel_rfl
set_option maxRecDepth 100000 in
set_option maxHeartbeats 4000000 in
theorem scompare_none (k : Int) (k1 : Int) (nm1 tx1 : ByteArray) (n1 m1 : Int) (k2 : Int) (nm2 tx2 : ByteArray) (n2 m2 : Int) (w : World)
    (HO : Hid (∀ W, Below w.heap.size w W → Calls Tryz.prog 13 #[.int .u8 k] W fun e w' => (∃ (g : Nat) (cap : Array Value) (a : Value) (l : Bool), e = .returned (.tuple #[.agg #[.func (.func g) #[] cap, .nilFunc, a, .bool l], .int .i64 0]) ∧ Hid (a.oneCell' = true)) ∧ Below W.heap.size W w')) :
    Calls Tryz.prog 4 #[.int .u8 k, .agg #[.int .u8 k1, .string nm1, .string tx1, .int .i64 n1, .int .i64 m1], .agg #[.int .u8 k2, .string nm2, .string tx2, .int .i64 n2, .int .i64 m2]] w fun e w' => e = .returned (.tuple #[.int .i64 0, .int .i64 6]) ∧ Below w.heap.size w w' := by
  go_enter Tryz.func4, Tryz.ntmps4
  go_wp2_with fail
  refine (HO.out _ (by first | exact Below.refl _ _ | (go_grown; done))).mono ?_; rintro e w1 ⟨⟨g, cap, a, l, rfl, HC⟩, hb⟩
  have hh0 : w1.heap[w.heap.size]? = some (.cells #[.int .u8 k1, .string nm1, .string tx1, .int .i64 n1, .int .i64 m1] 26 (0, 0)) := (hb.block _ (by first | omega | (simp; done) | (simp; omega))).trans (heap_old (o' := (.cells #[.int .u8 k2, .string nm2, .string tx2, .int .i64 n2, .int .i64 m2] 26 (0, 0))) (heap_new _ _ _ (by first | rfl | simp)))
  have hh1 : w1.heap[w.heap.size + 1]? = some (.cells #[.int .u8 k2, .string nm2, .string tx2, .int .i64 n2, .int .i64 m2] 26 (0, 0)) := (hb.block _ (by first | omega | (simp; done) | (simp; omega))).trans (heap_new _ _ _ (by first | rfl | simp))
  have hbw1 : Below w.heap.size w w1 := (show Below w.heap.size w _ by first | exact Below.refl _ _ | (go_grown; done)).trans (hb.mono (by first | omega | (simp; done) | (simp; omega)))
  clear hb
  have HH0_1 := Lib.hid hh0
  have lt0 := heap_lt hh0
  have c0_0 : w1.cell? ⟨w.heap.size, 0, none⟩ = some (.int .u8 k1) := by rw [Lib.cell_of_heap hh0]; rfl
  have c0_1 : w1.cell? ⟨w.heap.size, 1, none⟩ = some (.string nm1) := by rw [Lib.cell_of_heap hh0]; rfl
  have c0_2 : w1.cell? ⟨w.heap.size, 2, none⟩ = some (.string tx1) := by rw [Lib.cell_of_heap hh0]; rfl
  have c0_3 : w1.cell? ⟨w.heap.size, 3, none⟩ = some (.int .i64 n1) := by rw [Lib.cell_of_heap hh0]; rfl
  have c0_4 : w1.cell? ⟨w.heap.size, 4, none⟩ = some (.int .i64 m1) := by rw [Lib.cell_of_heap hh0]; rfl
  clear hh0
  have HH1_1 := Lib.hid hh1
  have lt1 := heap_lt hh1
  have c1_0 : w1.cell? ⟨w.heap.size + 1, 0, none⟩ = some (.int .u8 k2) := by rw [Lib.cell_of_heap hh1]; rfl
  have c1_1 : w1.cell? ⟨w.heap.size + 1, 1, none⟩ = some (.string nm2) := by rw [Lib.cell_of_heap hh1]; rfl
  have c1_2 : w1.cell? ⟨w.heap.size + 1, 2, none⟩ = some (.string tx2) := by rw [Lib.cell_of_heap hh1]; rfl
  have c1_3 : w1.cell? ⟨w.heap.size + 1, 3, none⟩ = some (.int .i64 n2) := by rw [Lib.cell_of_heap hh1]; rfl
  have c1_4 : w1.cell? ⟨w.heap.size + 1, 4, none⟩ = some (.int .i64 m2) := by rw [Lib.cell_of_heap hh1]; rfl
  clear hh1
  have sz1 := hbw1.size
  have HW1 := Lib.hid hbw1
  have hne := nil_cmp
  have hst0 := (fun W b x hc hz => st_one Tryz.prog (.func (.func g) #[] cap) rfl W b x hc hz)
  have hst1 := (fun W b x hc hz => st_one Tryz.prog (.nilFunc) rfl W b x hc hz)
  have hst2 := (fun W b x hc hz => st_one Tryz.prog (a) HC.out W b x hc hz)
  go_wp2_with fail
  refine (asked_no (.func (.func g) #[] cap) (.nilFunc) (a) l _ _ _ _).mono ?_; rintro e w2 ⟨rfl, hb⟩
  have hv0 := heap_old (o' := (.cells #[.int .u8 k1, .string nm1, .string tx1, .int .i64 n1, .int .i64 m1, .int .u8 k2, .string nm2, .string tx2, .int .i64 n2, .int .i64 m2] 26 (0, 0))) (heap_old (o' := (.cells #[.func (.func g) #[] cap, .nilFunc, a, .bool l] 42 (0, 0))) (HH0_1.out))
  have hh0 : w2.heap[w.heap.size]? = some (.cells #[.int .u8 k1, .string nm1, .string tx1, .int .i64 n1, .int .i64 m1] 26 (0, 0)) := (hb.block _ (heap_lt hv0)).trans hv0
  clear hv0
  have hv1 := heap_old (o' := (.cells #[.int .u8 k1, .string nm1, .string tx1, .int .i64 n1, .int .i64 m1, .int .u8 k2, .string nm2, .string tx2, .int .i64 n2, .int .i64 m2] 26 (0, 0))) (heap_old (o' := (.cells #[.func (.func g) #[] cap, .nilFunc, a, .bool l] 42 (0, 0))) (HH1_1.out))
  have hh1 : w2.heap[w.heap.size + 1]? = some (.cells #[.int .u8 k2, .string nm2, .string tx2, .int .i64 n2, .int .i64 m2] 26 (0, 0)) := (hb.block _ (heap_lt hv1)).trans hv1
  clear hv1
  have hh2 : w2.heap[w1.heap.size]? = some (.cells #[.func (.func g) #[] cap, .nilFunc, a, .bool l] 42 (0, 0)) := (hb.block _ (by first | omega | (simp; done) | (simp; omega))).trans (heap_old (o' := (.cells #[.int .u8 k1, .string nm1, .string tx1, .int .i64 n1, .int .i64 m1, .int .u8 k2, .string nm2, .string tx2, .int .i64 n2, .int .i64 m2] 26 (0, 0))) (heap_new _ _ _ (by first | rfl | simp)))
  have hh3 : w2.heap[w1.heap.size + 1]? = some (.cells #[.int .u8 k1, .string nm1, .string tx1, .int .i64 n1, .int .i64 m1, .int .u8 k2, .string nm2, .string tx2, .int .i64 n2, .int .i64 m2] 26 (0, 0)) := (hb.block _ (by first | omega | (simp; done) | (simp; omega))).trans (heap_new _ _ _ (by first | rfl | simp))
  have hbw2 : Below w.heap.size w w2 := (show Below w.heap.size w _ by first | exact HW1.out.trans ⟨rfl, rfl, rfl, Nat.le_refl _, fun _ _ => rfl⟩ | exact HW1.out | (go_grown; done)).trans (hb.mono (by first | omega | (simp; done) | (simp; omega)))
  clear hb lt0 c0_0 c0_1 c0_2 c0_3 c0_4 lt1 c1_0 c1_1 c1_2 c1_3 c1_4 hbw1
  have HH0_2 := Lib.hid hh0
  have lt0 := heap_lt hh0
  have c0_0 : w2.cell? ⟨w.heap.size, 0, none⟩ = some (.int .u8 k1) := by rw [Lib.cell_of_heap hh0]; rfl
  have c0_1 : w2.cell? ⟨w.heap.size, 1, none⟩ = some (.string nm1) := by rw [Lib.cell_of_heap hh0]; rfl
  have c0_2 : w2.cell? ⟨w.heap.size, 2, none⟩ = some (.string tx1) := by rw [Lib.cell_of_heap hh0]; rfl
  have c0_3 : w2.cell? ⟨w.heap.size, 3, none⟩ = some (.int .i64 n1) := by rw [Lib.cell_of_heap hh0]; rfl
  have c0_4 : w2.cell? ⟨w.heap.size, 4, none⟩ = some (.int .i64 m1) := by rw [Lib.cell_of_heap hh0]; rfl
  clear hh0
  have HH1_2 := Lib.hid hh1
  have lt1 := heap_lt hh1
  have c1_0 : w2.cell? ⟨w.heap.size + 1, 0, none⟩ = some (.int .u8 k2) := by rw [Lib.cell_of_heap hh1]; rfl
  have c1_1 : w2.cell? ⟨w.heap.size + 1, 1, none⟩ = some (.string nm2) := by rw [Lib.cell_of_heap hh1]; rfl
  have c1_2 : w2.cell? ⟨w.heap.size + 1, 2, none⟩ = some (.string tx2) := by rw [Lib.cell_of_heap hh1]; rfl
  have c1_3 : w2.cell? ⟨w.heap.size + 1, 3, none⟩ = some (.int .i64 n2) := by rw [Lib.cell_of_heap hh1]; rfl
  have c1_4 : w2.cell? ⟨w.heap.size + 1, 4, none⟩ = some (.int .i64 m2) := by rw [Lib.cell_of_heap hh1]; rfl
  clear hh1
  have HH2_2 := Lib.hid hh2
  have lt2 := heap_lt hh2
  have c2_0 : w2.cell? ⟨w1.heap.size, 0, none⟩ = some (.func (.func g) #[] cap) := by rw [Lib.cell_of_heap hh2]; rfl
  have c2_1 : w2.cell? ⟨w1.heap.size, 1, none⟩ = some (.nilFunc) := by rw [Lib.cell_of_heap hh2]; rfl
  have c2_2 : w2.cell? ⟨w1.heap.size, 2, none⟩ = some (a) := by rw [Lib.cell_of_heap hh2]; rfl
  have c2_3 : w2.cell? ⟨w1.heap.size, 3, none⟩ = some (.bool l) := by rw [Lib.cell_of_heap hh2]; rfl
  clear hh2
  have HH3_2 := Lib.hid hh3
  have lt3 := heap_lt hh3
  have c3_0 : w2.cell? ⟨w1.heap.size + 1, 0, none⟩ = some (.int .u8 k1) := by rw [Lib.cell_of_heap hh3]; rfl
  have c3_1 : w2.cell? ⟨w1.heap.size + 1, 1, none⟩ = some (.string nm1) := by rw [Lib.cell_of_heap hh3]; rfl
  have c3_2 : w2.cell? ⟨w1.heap.size + 1, 2, none⟩ = some (.string tx1) := by rw [Lib.cell_of_heap hh3]; rfl
  have c3_3 : w2.cell? ⟨w1.heap.size + 1, 3, none⟩ = some (.int .i64 n1) := by rw [Lib.cell_of_heap hh3]; rfl
  have c3_4 : w2.cell? ⟨w1.heap.size + 1, 4, none⟩ = some (.int .i64 m1) := by rw [Lib.cell_of_heap hh3]; rfl
  have c3_5 : w2.cell? ⟨w1.heap.size + 1, 5, none⟩ = some (.int .u8 k2) := by rw [Lib.cell_of_heap hh3]; rfl
  have c3_6 : w2.cell? ⟨w1.heap.size + 1, 6, none⟩ = some (.string nm2) := by rw [Lib.cell_of_heap hh3]; rfl
  have c3_7 : w2.cell? ⟨w1.heap.size + 1, 7, none⟩ = some (.string tx2) := by rw [Lib.cell_of_heap hh3]; rfl
  have c3_8 : w2.cell? ⟨w1.heap.size + 1, 8, none⟩ = some (.int .i64 n2) := by rw [Lib.cell_of_heap hh3]; rfl
  have c3_9 : w2.cell? ⟨w1.heap.size + 1, 9, none⟩ = some (.int .i64 m2) := by rw [Lib.cell_of_heap hh3]; rfl
  clear hh3
  have sz2 := hbw2.size
  have HW2 := Lib.hid hbw2
  clear hst0 hst1 hst2 hne
  go_wp2_with fail
  go_ret2
  exact ⟨rfl, by first | exact HW2.out | (go_grown; done)⟩
set_option maxRecDepth 100000 in
set_option maxHeartbeats 4000000 in
theorem scompare_go (k : Int) (k1 : Int) (nm1 tx1 : ByteArray) (n1 m1 : Int) (k2 : Int) (nm2 tx2 : ByteArray) (n2 m2 : Int) (r : Int) (w : World)
    (HO : Hid (∀ W, Below w.heap.size w W → Calls Tryz.prog 13 #[.int .u8 k] W fun e w' => (∃ (g : Nat) (cap : Array Value) (gc : Nat) (a : Value) (l : Bool), e = .returned (.tuple #[.agg #[.func (.func g) #[] cap, .func (.func gc) #[] #[], a, .bool l], .int .i64 0]) ∧ Hid (a.oneCell' = true) ∧ Hid (∀ args w, (callFunc gc args).run Tryz.prog w = .ok (.enter gc args) w) ∧ Hid (DoesU w' 21 #[.agg #[.func (.func g) #[] cap, .func (.func gc) #[] #[], a, .bool l], .agg #[.int .u8 k1, .string nm1, .string tx1, .int .i64 n1, .int .i64 m1]] (.tuple #[.agg #[.int .u8 k1, .string nm1, .string tx1, .int .i64 n1, .int .i64 m1], .bool true])) ∧ Hid (DoesU w' 21 #[.agg #[.func (.func g) #[] cap, .func (.func gc) #[] #[], a, .bool l], .agg #[.int .u8 k2, .string nm2, .string tx2, .int .i64 n2, .int .i64 m2]] (.tuple #[.agg #[.int .u8 k2, .string nm2, .string tx2, .int .i64 n2, .int .i64 m2], .bool true])) ∧ Hid (DoesU w' gc #[.agg #[.int .u8 k1, .string nm1, .string tx1, .int .i64 n1, .int .i64 m1], .agg #[.int .u8 k2, .string nm2, .string tx2, .int .i64 n2, .int .i64 m2]] (.int .i64 r))) ∧ Below W.heap.size W w')) :
    Calls Tryz.prog 4 #[.int .u8 k, .agg #[.int .u8 k1, .string nm1, .string tx1, .int .i64 n1, .int .i64 m1], .agg #[.int .u8 k2, .string nm2, .string tx2, .int .i64 n2, .int .i64 m2]] w fun e w' => e = .returned (.tuple #[.int .i64 r, .int .i64 0]) ∧ Below w.heap.size w w' := by
  go_enter Tryz.func4, Tryz.ntmps4
  go_wp2_with fail
  refine (HO.out _ (by first | exact Below.refl _ _ | (go_grown; done))).mono ?_; rintro e w1 ⟨⟨g, cap, gc, a, l, rfl, HC, HE, HQ1, HQ2, HG⟩, hb⟩
  have hh0 : w1.heap[w.heap.size]? = some (.cells #[.int .u8 k1, .string nm1, .string tx1, .int .i64 n1, .int .i64 m1] 26 (0, 0)) := (hb.block _ (by first | omega | (simp; done) | (simp; omega))).trans (heap_old (o' := (.cells #[.int .u8 k2, .string nm2, .string tx2, .int .i64 n2, .int .i64 m2] 26 (0, 0))) (heap_new _ _ _ (by first | rfl | simp)))
  have hh1 : w1.heap[w.heap.size + 1]? = some (.cells #[.int .u8 k2, .string nm2, .string tx2, .int .i64 n2, .int .i64 m2] 26 (0, 0)) := (hb.block _ (by first | omega | (simp; done) | (simp; omega))).trans (heap_new _ _ _ (by first | rfl | simp))
  have hbw1 : Below w.heap.size w w1 := (show Below w.heap.size w _ by first | exact Below.refl _ _ | (go_grown; done)).trans (hb.mono (by first | omega | (simp; done) | (simp; omega)))
  clear hb
  have HH0_1 := Lib.hid hh0
  have lt0 := heap_lt hh0
  have c0_0 : w1.cell? ⟨w.heap.size, 0, none⟩ = some (.int .u8 k1) := by rw [Lib.cell_of_heap hh0]; rfl
  have c0_1 : w1.cell? ⟨w.heap.size, 1, none⟩ = some (.string nm1) := by rw [Lib.cell_of_heap hh0]; rfl
  have c0_2 : w1.cell? ⟨w.heap.size, 2, none⟩ = some (.string tx1) := by rw [Lib.cell_of_heap hh0]; rfl
  have c0_3 : w1.cell? ⟨w.heap.size, 3, none⟩ = some (.int .i64 n1) := by rw [Lib.cell_of_heap hh0]; rfl
  have c0_4 : w1.cell? ⟨w.heap.size, 4, none⟩ = some (.int .i64 m1) := by rw [Lib.cell_of_heap hh0]; rfl
  clear hh0
  have HH1_1 := Lib.hid hh1
  have lt1 := heap_lt hh1
  have c1_0 : w1.cell? ⟨w.heap.size + 1, 0, none⟩ = some (.int .u8 k2) := by rw [Lib.cell_of_heap hh1]; rfl
  have c1_1 : w1.cell? ⟨w.heap.size + 1, 1, none⟩ = some (.string nm2) := by rw [Lib.cell_of_heap hh1]; rfl
  have c1_2 : w1.cell? ⟨w.heap.size + 1, 2, none⟩ = some (.string tx2) := by rw [Lib.cell_of_heap hh1]; rfl
  have c1_3 : w1.cell? ⟨w.heap.size + 1, 3, none⟩ = some (.int .i64 n2) := by rw [Lib.cell_of_heap hh1]; rfl
  have c1_4 : w1.cell? ⟨w.heap.size + 1, 4, none⟩ = some (.int .i64 m2) := by rw [Lib.cell_of_heap hh1]; rfl
  clear hh1
  have sz1 := hbw1.size
  have HW1 := Lib.hid hbw1
  have hne := fun w => fun_cmp w gc
  have hst0 := (fun W b x hc hz => st_one Tryz.prog (.func (.func g) #[] cap) rfl W b x hc hz)
  have hst1 := (fun W b x hc hz => st_one Tryz.prog (.func (.func gc) #[] #[]) rfl W b x hc hz)
  have hst2 := (fun W b x hc hz => st_one Tryz.prog (a) HC.out W b x hc hz)
  go_wp2_with fail
  refine (asked_2 g cap (.func (.func gc) #[] #[]) (a) l k1 nm1 tx1 n1 m1 k2 nm2 tx2 n2 m2 _ _ (Lib.hid (heap_new _ _ _ (by first | rfl | simp))) (Lib.hid (HQ1.out.below (by first | exact Below.refl _ _ | (go_grown; done)))) (Lib.hid (HQ2.out.below (by first | exact Below.refl _ _ | (go_grown; done))))).mono ?_; rintro e w2 ⟨rfl, hb⟩
  have HBQ := Lib.hid ((show Below w1.heap.size w1 _ by first | exact Below.refl _ _ | (go_grown; done)).trans (hb.mono (by first | omega | (simp; done) | (simp; omega))))
  have hv0 := heap_old (o' := (.cells #[.int .u8 k1, .string nm1, .string tx1, .int .i64 n1, .int .i64 m1, .int .u8 k2, .string nm2, .string tx2, .int .i64 n2, .int .i64 m2] 26 (0, 0))) (heap_old (o' := (.cells #[.func (.func g) #[] cap, .func (.func gc) #[] #[], a, .bool l] 42 (0, 0))) (HH0_1.out))
  have hh0 : w2.heap[w.heap.size]? = some (.cells #[.int .u8 k1, .string nm1, .string tx1, .int .i64 n1, .int .i64 m1] 26 (0, 0)) := (hb.block _ (heap_lt hv0)).trans hv0
  clear hv0
  have hv1 := heap_old (o' := (.cells #[.int .u8 k1, .string nm1, .string tx1, .int .i64 n1, .int .i64 m1, .int .u8 k2, .string nm2, .string tx2, .int .i64 n2, .int .i64 m2] 26 (0, 0))) (heap_old (o' := (.cells #[.func (.func g) #[] cap, .func (.func gc) #[] #[], a, .bool l] 42 (0, 0))) (HH1_1.out))
  have hh1 : w2.heap[w.heap.size + 1]? = some (.cells #[.int .u8 k2, .string nm2, .string tx2, .int .i64 n2, .int .i64 m2] 26 (0, 0)) := (hb.block _ (heap_lt hv1)).trans hv1
  clear hv1
  have hh2 : w2.heap[w1.heap.size]? = some (.cells #[.func (.func g) #[] cap, .func (.func gc) #[] #[], a, .bool l] 42 (0, 0)) := (hb.block _ (by first | omega | (simp; done) | (simp; omega))).trans (heap_old (o' := (.cells #[.int .u8 k1, .string nm1, .string tx1, .int .i64 n1, .int .i64 m1, .int .u8 k2, .string nm2, .string tx2, .int .i64 n2, .int .i64 m2] 26 (0, 0))) (heap_new _ _ _ (by first | rfl | simp)))
  have hh3 : w2.heap[w1.heap.size + 1]? = some (.cells #[.int .u8 k1, .string nm1, .string tx1, .int .i64 n1, .int .i64 m1, .int .u8 k2, .string nm2, .string tx2, .int .i64 n2, .int .i64 m2] 26 (0, 0)) := (hb.block _ (by first | omega | (simp; done) | (simp; omega))).trans (heap_new _ _ _ (by first | rfl | simp))
  have hbw2 : Below w.heap.size w w2 := (show Below w.heap.size w _ by first | exact HW1.out.trans ⟨rfl, rfl, rfl, Nat.le_refl _, fun _ _ => rfl⟩ | exact HW1.out | (go_grown; done)).trans (hb.mono (by first | omega | (simp; done) | (simp; omega)))
  clear hb lt0 c0_0 c0_1 c0_2 c0_3 c0_4 lt1 c1_0 c1_1 c1_2 c1_3 c1_4 hbw1
  have HH0_2 := Lib.hid hh0
  have lt0 := heap_lt hh0
  have c0_0 : w2.cell? ⟨w.heap.size, 0, none⟩ = some (.int .u8 k1) := by rw [Lib.cell_of_heap hh0]; rfl
  have c0_1 : w2.cell? ⟨w.heap.size, 1, none⟩ = some (.string nm1) := by rw [Lib.cell_of_heap hh0]; rfl
  have c0_2 : w2.cell? ⟨w.heap.size, 2, none⟩ = some (.string tx1) := by rw [Lib.cell_of_heap hh0]; rfl
  have c0_3 : w2.cell? ⟨w.heap.size, 3, none⟩ = some (.int .i64 n1) := by rw [Lib.cell_of_heap hh0]; rfl
  have c0_4 : w2.cell? ⟨w.heap.size, 4, none⟩ = some (.int .i64 m1) := by rw [Lib.cell_of_heap hh0]; rfl
  clear hh0
  have HH1_2 := Lib.hid hh1
  have lt1 := heap_lt hh1
  have c1_0 : w2.cell? ⟨w.heap.size + 1, 0, none⟩ = some (.int .u8 k2) := by rw [Lib.cell_of_heap hh1]; rfl
  have c1_1 : w2.cell? ⟨w.heap.size + 1, 1, none⟩ = some (.string nm2) := by rw [Lib.cell_of_heap hh1]; rfl
  have c1_2 : w2.cell? ⟨w.heap.size + 1, 2, none⟩ = some (.string tx2) := by rw [Lib.cell_of_heap hh1]; rfl
  have c1_3 : w2.cell? ⟨w.heap.size + 1, 3, none⟩ = some (.int .i64 n2) := by rw [Lib.cell_of_heap hh1]; rfl
  have c1_4 : w2.cell? ⟨w.heap.size + 1, 4, none⟩ = some (.int .i64 m2) := by rw [Lib.cell_of_heap hh1]; rfl
  clear hh1
  have HH2_2 := Lib.hid hh2
  have lt2 := heap_lt hh2
  have c2_0 : w2.cell? ⟨w1.heap.size, 0, none⟩ = some (.func (.func g) #[] cap) := by rw [Lib.cell_of_heap hh2]; rfl
  have c2_1 : w2.cell? ⟨w1.heap.size, 1, none⟩ = some (.func (.func gc) #[] #[]) := by rw [Lib.cell_of_heap hh2]; rfl
  have c2_2 : w2.cell? ⟨w1.heap.size, 2, none⟩ = some (a) := by rw [Lib.cell_of_heap hh2]; rfl
  have c2_3 : w2.cell? ⟨w1.heap.size, 3, none⟩ = some (.bool l) := by rw [Lib.cell_of_heap hh2]; rfl
  clear hh2
  have HH3_2 := Lib.hid hh3
  have lt3 := heap_lt hh3
  have c3_0 : w2.cell? ⟨w1.heap.size + 1, 0, none⟩ = some (.int .u8 k1) := by rw [Lib.cell_of_heap hh3]; rfl
  have c3_1 : w2.cell? ⟨w1.heap.size + 1, 1, none⟩ = some (.string nm1) := by rw [Lib.cell_of_heap hh3]; rfl
  have c3_2 : w2.cell? ⟨w1.heap.size + 1, 2, none⟩ = some (.string tx1) := by rw [Lib.cell_of_heap hh3]; rfl
  have c3_3 : w2.cell? ⟨w1.heap.size + 1, 3, none⟩ = some (.int .i64 n1) := by rw [Lib.cell_of_heap hh3]; rfl
  have c3_4 : w2.cell? ⟨w1.heap.size + 1, 4, none⟩ = some (.int .i64 m1) := by rw [Lib.cell_of_heap hh3]; rfl
  have c3_5 : w2.cell? ⟨w1.heap.size + 1, 5, none⟩ = some (.int .u8 k2) := by rw [Lib.cell_of_heap hh3]; rfl
  have c3_6 : w2.cell? ⟨w1.heap.size + 1, 6, none⟩ = some (.string nm2) := by rw [Lib.cell_of_heap hh3]; rfl
  have c3_7 : w2.cell? ⟨w1.heap.size + 1, 7, none⟩ = some (.string tx2) := by rw [Lib.cell_of_heap hh3]; rfl
  have c3_8 : w2.cell? ⟨w1.heap.size + 1, 8, none⟩ = some (.int .i64 n2) := by rw [Lib.cell_of_heap hh3]; rfl
  have c3_9 : w2.cell? ⟨w1.heap.size + 1, 9, none⟩ = some (.int .i64 m2) := by rw [Lib.cell_of_heap hh3]; rfl
  clear hh3
  have sz2 := hbw2.size
  have HW2 := Lib.hid hbw2
  clear hst0 hst1 hst2 hne
  have eg := HE.out
  go_wp2_with fail
  refine (HG.out _ (by first | exact HBQ.out | (go_grown; done))).mono ?_; rintro e w3 ⟨rfl, hb⟩
  have hv0 := HH0_2.out
  have hh0 : w3.heap[w.heap.size]? = some (.cells #[.int .u8 k1, .string nm1, .string tx1, .int .i64 n1, .int .i64 m1] 26 (0, 0)) := (hb.block _ (heap_lt hv0)).trans hv0
  clear hv0
  have hv1 := HH1_2.out
  have hh1 : w3.heap[w.heap.size + 1]? = some (.cells #[.int .u8 k2, .string nm2, .string tx2, .int .i64 n2, .int .i64 m2] 26 (0, 0)) := (hb.block _ (heap_lt hv1)).trans hv1
  clear hv1
  have hv2 := HH2_2.out
  have hh2 : w3.heap[w1.heap.size]? = some (.cells #[.func (.func g) #[] cap, .func (.func gc) #[] #[], a, .bool l] 42 (0, 0)) := (hb.block _ (heap_lt hv2)).trans hv2
  clear hv2
  have hv3 := HH3_2.out
  have hh3 : w3.heap[w1.heap.size + 1]? = some (.cells #[.int .u8 k1, .string nm1, .string tx1, .int .i64 n1, .int .i64 m1, .int .u8 k2, .string nm2, .string tx2, .int .i64 n2, .int .i64 m2] 26 (0, 0)) := (hb.block _ (heap_lt hv3)).trans hv3
  clear hv3
  have hbw3 : Below w.heap.size w w3 := (show Below w.heap.size w _ by first | exact HW2.out.trans ⟨rfl, rfl, rfl, Nat.le_refl _, fun _ _ => rfl⟩ | exact HW2.out | (go_grown; done)).trans (hb.mono (by first | omega | (simp; done) | (simp; omega)))
  clear hb lt0 c0_0 c0_1 c0_2 c0_3 c0_4 lt1 c1_0 c1_1 c1_2 c1_3 c1_4 lt2 c2_0 c2_1 c2_2 c2_3 lt3 c3_0 c3_1 c3_2 c3_3 c3_4 c3_5 c3_6 c3_7 c3_8 c3_9 hbw2
  have HH0_3 := Lib.hid hh0
  have lt0 := heap_lt hh0
  have c0_0 : w3.cell? ⟨w.heap.size, 0, none⟩ = some (.int .u8 k1) := by rw [Lib.cell_of_heap hh0]; rfl
  have c0_1 : w3.cell? ⟨w.heap.size, 1, none⟩ = some (.string nm1) := by rw [Lib.cell_of_heap hh0]; rfl
  have c0_2 : w3.cell? ⟨w.heap.size, 2, none⟩ = some (.string tx1) := by rw [Lib.cell_of_heap hh0]; rfl
  have c0_3 : w3.cell? ⟨w.heap.size, 3, none⟩ = some (.int .i64 n1) := by rw [Lib.cell_of_heap hh0]; rfl
  have c0_4 : w3.cell? ⟨w.heap.size, 4, none⟩ = some (.int .i64 m1) := by rw [Lib.cell_of_heap hh0]; rfl
  clear hh0
  have HH1_3 := Lib.hid hh1
  have lt1 := heap_lt hh1
  have c1_0 : w3.cell? ⟨w.heap.size + 1, 0, none⟩ = some (.int .u8 k2) := by rw [Lib.cell_of_heap hh1]; rfl
  have c1_1 : w3.cell? ⟨w.heap.size + 1, 1, none⟩ = some (.string nm2) := by rw [Lib.cell_of_heap hh1]; rfl
  have c1_2 : w3.cell? ⟨w.heap.size + 1, 2, none⟩ = some (.string tx2) := by rw [Lib.cell_of_heap hh1]; rfl
  have c1_3 : w3.cell? ⟨w.heap.size + 1, 3, none⟩ = some (.int .i64 n2) := by rw [Lib.cell_of_heap hh1]; rfl
  have c1_4 : w3.cell? ⟨w.heap.size + 1, 4, none⟩ = some (.int .i64 m2) := by rw [Lib.cell_of_heap hh1]; rfl
  clear hh1
  have HH2_3 := Lib.hid hh2
  have lt2 := heap_lt hh2
  have c2_0 : w3.cell? ⟨w1.heap.size, 0, none⟩ = some (.func (.func g) #[] cap) := by rw [Lib.cell_of_heap hh2]; rfl
  have c2_1 : w3.cell? ⟨w1.heap.size, 1, none⟩ = some (.func (.func gc) #[] #[]) := by rw [Lib.cell_of_heap hh2]; rfl
  have c2_2 : w3.cell? ⟨w1.heap.size, 2, none⟩ = some (a) := by rw [Lib.cell_of_heap hh2]; rfl
  have c2_3 : w3.cell? ⟨w1.heap.size, 3, none⟩ = some (.bool l) := by rw [Lib.cell_of_heap hh2]; rfl
  clear hh2
  have HH3_3 := Lib.hid hh3
  have lt3 := heap_lt hh3
  have c3_0 : w3.cell? ⟨w1.heap.size + 1, 0, none⟩ = some (.int .u8 k1) := by rw [Lib.cell_of_heap hh3]; rfl
  have c3_1 : w3.cell? ⟨w1.heap.size + 1, 1, none⟩ = some (.string nm1) := by rw [Lib.cell_of_heap hh3]; rfl
  have c3_2 : w3.cell? ⟨w1.heap.size + 1, 2, none⟩ = some (.string tx1) := by rw [Lib.cell_of_heap hh3]; rfl
  have c3_3 : w3.cell? ⟨w1.heap.size + 1, 3, none⟩ = some (.int .i64 n1) := by rw [Lib.cell_of_heap hh3]; rfl
  have c3_4 : w3.cell? ⟨w1.heap.size + 1, 4, none⟩ = some (.int .i64 m1) := by rw [Lib.cell_of_heap hh3]; rfl
  have c3_5 : w3.cell? ⟨w1.heap.size + 1, 5, none⟩ = some (.int .u8 k2) := by rw [Lib.cell_of_heap hh3]; rfl
  have c3_6 : w3.cell? ⟨w1.heap.size + 1, 6, none⟩ = some (.string nm2) := by rw [Lib.cell_of_heap hh3]; rfl
  have c3_7 : w3.cell? ⟨w1.heap.size + 1, 7, none⟩ = some (.string tx2) := by rw [Lib.cell_of_heap hh3]; rfl
  have c3_8 : w3.cell? ⟨w1.heap.size + 1, 8, none⟩ = some (.int .i64 n2) := by rw [Lib.cell_of_heap hh3]; rfl
  have c3_9 : w3.cell? ⟨w1.heap.size + 1, 9, none⟩ = some (.int .i64 m2) := by rw [Lib.cell_of_heap hh3]; rfl
  clear hh3
  have sz3 := hbw3.size
  have HW3 := Lib.hid hbw3
  clear eg
  go_wp2_with fail
  go_ret2
  exact ⟨rfl, by first | exact HW3.out | (go_grown; done)⟩
set_option maxRecDepth 100000 in
set_option maxHeartbeats 4000000 in
theorem sadd_none (k : Int) (k1 : Int) (nm1 tx1 : ByteArray) (n1 m1 : Int) (k2 : Int) (nm2 tx2 : ByteArray) (n2 m2 : Int) (w : World)
    (HO : Hid (∀ W, Below w.heap.size w W → Calls Tryz.prog 13 #[.int .u8 k] W fun e w' => (∃ (g : Nat) (cap : Array Value) (c : Value) (l : Bool), e = .returned (.tuple #[.agg #[.func (.func g) #[] cap, c, .nilFunc, .bool l], .int .i64 0]) ∧ Hid (c.oneCell' = true)) ∧ Below W.heap.size W w')) :
    Calls Tryz.prog 6 #[.int .u8 k, .agg #[.int .u8 k1, .string nm1, .string tx1, .int .i64 n1, .int .i64 m1], .agg #[.int .u8 k2, .string nm2, .string tx2, .int .i64 n2, .int .i64 m2]] w fun e w' => e = .returned (.tuple #[.agg #[.int .u8 0, .string ⟨#[]⟩, .string ⟨#[]⟩, .int .i64 0, .int .i64 0], .int .i64 6]) ∧ Below w.heap.size w w' := by
  go_enter Tryz.func6, Tryz.ntmps6
  go_wp2_with fail
  refine (HO.out _ (by first | exact Below.refl _ _ | (go_grown; done))).mono ?_; rintro e w1 ⟨⟨g, cap, c, l, rfl, HC⟩, hb⟩
  have hh0 : w1.heap[w.heap.size]? = some (.cells #[.int .u8 k1, .string nm1, .string tx1, .int .i64 n1, .int .i64 m1] 26 (0, 0)) := (hb.block _ (by first | omega | (simp; done) | (simp; omega))).trans (heap_old (o' := (.cells #[.int .u8 0, .string ⟨#[]⟩, .string ⟨#[]⟩, .int .i64 0, .int .i64 0] 26 (0, 0))) (heap_old (o' := (.cells #[.int .u8 k2, .string nm2, .string tx2, .int .i64 n2, .int .i64 m2] 26 (0, 0))) (heap_new _ _ _ (by first | rfl | simp))))
  have hh1 : w1.heap[w.heap.size + 1]? = some (.cells #[.int .u8 k2, .string nm2, .string tx2, .int .i64 n2, .int .i64 m2] 26 (0, 0)) := (hb.block _ (by first | omega | (simp; done) | (simp; omega))).trans (heap_old (o' := (.cells #[.int .u8 0, .string ⟨#[]⟩, .string ⟨#[]⟩, .int .i64 0, .int .i64 0] 26 (0, 0))) (heap_new _ _ _ (by first | rfl | simp)))
  have hh2 : w1.heap[w.heap.size + 1 + 1]? = some (.cells #[.int .u8 0, .string ⟨#[]⟩, .string ⟨#[]⟩, .int .i64 0, .int .i64 0] 26 (0, 0)) := (hb.block _ (by first | omega | (simp; done) | (simp; omega))).trans (heap_new _ _ _ (by first | rfl | simp))
  have hbw1 : Below w.heap.size w w1 := (show Below w.heap.size w _ by first | exact Below.refl _ _ | (go_grown; done)).trans (hb.mono (by first | omega | (simp; done) | (simp; omega)))
  clear hb
  have HH0_1 := Lib.hid hh0
  have lt0 := heap_lt hh0
  have c0_0 : w1.cell? ⟨w.heap.size, 0, none⟩ = some (.int .u8 k1) := by rw [Lib.cell_of_heap hh0]; rfl
  have c0_1 : w1.cell? ⟨w.heap.size, 1, none⟩ = some (.string nm1) := by rw [Lib.cell_of_heap hh0]; rfl
  have c0_2 : w1.cell? ⟨w.heap.size, 2, none⟩ = some (.string tx1) := by rw [Lib.cell_of_heap hh0]; rfl
  have c0_3 : w1.cell? ⟨w.heap.size, 3, none⟩ = some (.int .i64 n1) := by rw [Lib.cell_of_heap hh0]; rfl
  have c0_4 : w1.cell? ⟨w.heap.size, 4, none⟩ = some (.int .i64 m1) := by rw [Lib.cell_of_heap hh0]; rfl
  clear hh0
  have HH1_1 := Lib.hid hh1
  have lt1 := heap_lt hh1
  have c1_0 : w1.cell? ⟨w.heap.size + 1, 0, none⟩ = some (.int .u8 k2) := by rw [Lib.cell_of_heap hh1]; rfl
  have c1_1 : w1.cell? ⟨w.heap.size + 1, 1, none⟩ = some (.string nm2) := by rw [Lib.cell_of_heap hh1]; rfl
  have c1_2 : w1.cell? ⟨w.heap.size + 1, 2, none⟩ = some (.string tx2) := by rw [Lib.cell_of_heap hh1]; rfl
  have c1_3 : w1.cell? ⟨w.heap.size + 1, 3, none⟩ = some (.int .i64 n2) := by rw [Lib.cell_of_heap hh1]; rfl
  have c1_4 : w1.cell? ⟨w.heap.size + 1, 4, none⟩ = some (.int .i64 m2) := by rw [Lib.cell_of_heap hh1]; rfl
  clear hh1
  have HH2_1 := Lib.hid hh2
  have lt2 := heap_lt hh2
  have c2_0 : w1.cell? ⟨w.heap.size + 1 + 1, 0, none⟩ = some (.int .u8 0) := by rw [Lib.cell_of_heap hh2]; rfl
  have f2_0 : w1.frozen? ⟨w.heap.size + 1 + 1, 0, none⟩ = false := Lib.frozen_of_heap hh2 0
  have c2_1 : w1.cell? ⟨w.heap.size + 1 + 1, 1, none⟩ = some (.string ⟨#[]⟩) := by rw [Lib.cell_of_heap hh2]; rfl
  have f2_1 : w1.frozen? ⟨w.heap.size + 1 + 1, 1, none⟩ = false := Lib.frozen_of_heap hh2 1
  have c2_2 : w1.cell? ⟨w.heap.size + 1 + 1, 2, none⟩ = some (.string ⟨#[]⟩) := by rw [Lib.cell_of_heap hh2]; rfl
  have f2_2 : w1.frozen? ⟨w.heap.size + 1 + 1, 2, none⟩ = false := Lib.frozen_of_heap hh2 2
  have c2_3 : w1.cell? ⟨w.heap.size + 1 + 1, 3, none⟩ = some (.int .i64 0) := by rw [Lib.cell_of_heap hh2]; rfl
  have f2_3 : w1.frozen? ⟨w.heap.size + 1 + 1, 3, none⟩ = false := Lib.frozen_of_heap hh2 3
  have c2_4 : w1.cell? ⟨w.heap.size + 1 + 1, 4, none⟩ = some (.int .i64 0) := by rw [Lib.cell_of_heap hh2]; rfl
  have f2_4 : w1.frozen? ⟨w.heap.size + 1 + 1, 4, none⟩ = false := Lib.frozen_of_heap hh2 4
  clear hh2
  have sz1 := hbw1.size
  have HW1 := Lib.hid hbw1
  have hne := nil_add
  have hst0 := (fun W b x hc hz => st_one Tryz.prog (.func (.func g) #[] cap) rfl W b x hc hz)
  have hst1 := (fun W b x hc hz => st_one Tryz.prog (c) HC.out W b x hc hz)
  have hst2 := (fun W b x hc hz => st_one Tryz.prog (.nilFunc) rfl W b x hc hz)
  go_wp2_with fail
  refine (asked_no (.func (.func g) #[] cap) (c) (.nilFunc) l _ _ _ _).mono ?_; rintro e w2 ⟨rfl, hb⟩
  have hv0 := heap_old (o' := (.cells #[.int .u8 k1, .string nm1, .string tx1, .int .i64 n1, .int .i64 m1, .int .u8 k2, .string nm2, .string tx2, .int .i64 n2, .int .i64 m2] 26 (0, 0))) (heap_old (o' := (.cells #[.func (.func g) #[] cap, c, .nilFunc, .bool l] 42 (0, 0))) (HH0_1.out))
  have hh0 : w2.heap[w.heap.size]? = some (.cells #[.int .u8 k1, .string nm1, .string tx1, .int .i64 n1, .int .i64 m1] 26 (0, 0)) := (hb.block _ (heap_lt hv0)).trans hv0
  clear hv0
  have hv1 := heap_old (o' := (.cells #[.int .u8 k1, .string nm1, .string tx1, .int .i64 n1, .int .i64 m1, .int .u8 k2, .string nm2, .string tx2, .int .i64 n2, .int .i64 m2] 26 (0, 0))) (heap_old (o' := (.cells #[.func (.func g) #[] cap, c, .nilFunc, .bool l] 42 (0, 0))) (HH1_1.out))
  have hh1 : w2.heap[w.heap.size + 1]? = some (.cells #[.int .u8 k2, .string nm2, .string tx2, .int .i64 n2, .int .i64 m2] 26 (0, 0)) := (hb.block _ (heap_lt hv1)).trans hv1
  clear hv1
  have hv2 := heap_old (o' := (.cells #[.int .u8 k1, .string nm1, .string tx1, .int .i64 n1, .int .i64 m1, .int .u8 k2, .string nm2, .string tx2, .int .i64 n2, .int .i64 m2] 26 (0, 0))) (heap_old (o' := (.cells #[.func (.func g) #[] cap, c, .nilFunc, .bool l] 42 (0, 0))) (HH2_1.out))
  have hh2 : w2.heap[w.heap.size + 1 + 1]? = some (.cells #[.int .u8 0, .string ⟨#[]⟩, .string ⟨#[]⟩, .int .i64 0, .int .i64 0] 26 (0, 0)) := (hb.block _ (heap_lt hv2)).trans hv2
  clear hv2
  have hh3 : w2.heap[w1.heap.size]? = some (.cells #[.func (.func g) #[] cap, c, .nilFunc, .bool l] 42 (0, 0)) := (hb.block _ (by first | omega | (simp; done) | (simp; omega))).trans (heap_old (o' := (.cells #[.int .u8 k1, .string nm1, .string tx1, .int .i64 n1, .int .i64 m1, .int .u8 k2, .string nm2, .string tx2, .int .i64 n2, .int .i64 m2] 26 (0, 0))) (heap_new _ _ _ (by first | rfl | simp)))
  have hh4 : w2.heap[w1.heap.size + 1]? = some (.cells #[.int .u8 k1, .string nm1, .string tx1, .int .i64 n1, .int .i64 m1, .int .u8 k2, .string nm2, .string tx2, .int .i64 n2, .int .i64 m2] 26 (0, 0)) := (hb.block _ (by first | omega | (simp; done) | (simp; omega))).trans (heap_new _ _ _ (by first | rfl | simp))
  have hbw2 : Below w.heap.size w w2 := (show Below w.heap.size w _ by first | exact HW1.out.trans ⟨rfl, rfl, rfl, Nat.le_refl _, fun _ _ => rfl⟩ | exact HW1.out | (go_grown; done)).trans (hb.mono (by first | omega | (simp; done) | (simp; omega)))
  clear hb lt0 c0_0 c0_1 c0_2 c0_3 c0_4 lt1 c1_0 c1_1 c1_2 c1_3 c1_4 lt2 c2_0 f2_0 c2_1 f2_1 c2_2 f2_2 c2_3 f2_3 c2_4 f2_4 hbw1
  have HH0_2 := Lib.hid hh0
  have lt0 := heap_lt hh0
  have c0_0 : w2.cell? ⟨w.heap.size, 0, none⟩ = some (.int .u8 k1) := by rw [Lib.cell_of_heap hh0]; rfl
  have c0_1 : w2.cell? ⟨w.heap.size, 1, none⟩ = some (.string nm1) := by rw [Lib.cell_of_heap hh0]; rfl
  have c0_2 : w2.cell? ⟨w.heap.size, 2, none⟩ = some (.string tx1) := by rw [Lib.cell_of_heap hh0]; rfl
  have c0_3 : w2.cell? ⟨w.heap.size, 3, none⟩ = some (.int .i64 n1) := by rw [Lib.cell_of_heap hh0]; rfl
  have c0_4 : w2.cell? ⟨w.heap.size, 4, none⟩ = some (.int .i64 m1) := by rw [Lib.cell_of_heap hh0]; rfl
  clear hh0
  have HH1_2 := Lib.hid hh1
  have lt1 := heap_lt hh1
  have c1_0 : w2.cell? ⟨w.heap.size + 1, 0, none⟩ = some (.int .u8 k2) := by rw [Lib.cell_of_heap hh1]; rfl
  have c1_1 : w2.cell? ⟨w.heap.size + 1, 1, none⟩ = some (.string nm2) := by rw [Lib.cell_of_heap hh1]; rfl
  have c1_2 : w2.cell? ⟨w.heap.size + 1, 2, none⟩ = some (.string tx2) := by rw [Lib.cell_of_heap hh1]; rfl
  have c1_3 : w2.cell? ⟨w.heap.size + 1, 3, none⟩ = some (.int .i64 n2) := by rw [Lib.cell_of_heap hh1]; rfl
  have c1_4 : w2.cell? ⟨w.heap.size + 1, 4, none⟩ = some (.int .i64 m2) := by rw [Lib.cell_of_heap hh1]; rfl
  clear hh1
  have HH2_2 := Lib.hid hh2
  have lt2 := heap_lt hh2
  have c2_0 : w2.cell? ⟨w.heap.size + 1 + 1, 0, none⟩ = some (.int .u8 0) := by rw [Lib.cell_of_heap hh2]; rfl
  have f2_0 : w2.frozen? ⟨w.heap.size + 1 + 1, 0, none⟩ = false := Lib.frozen_of_heap hh2 0
  have c2_1 : w2.cell? ⟨w.heap.size + 1 + 1, 1, none⟩ = some (.string ⟨#[]⟩) := by rw [Lib.cell_of_heap hh2]; rfl
  have f2_1 : w2.frozen? ⟨w.heap.size + 1 + 1, 1, none⟩ = false := Lib.frozen_of_heap hh2 1
  have c2_2 : w2.cell? ⟨w.heap.size + 1 + 1, 2, none⟩ = some (.string ⟨#[]⟩) := by rw [Lib.cell_of_heap hh2]; rfl
  have f2_2 : w2.frozen? ⟨w.heap.size + 1 + 1, 2, none⟩ = false := Lib.frozen_of_heap hh2 2
  have c2_3 : w2.cell? ⟨w.heap.size + 1 + 1, 3, none⟩ = some (.int .i64 0) := by rw [Lib.cell_of_heap hh2]; rfl
  have f2_3 : w2.frozen? ⟨w.heap.size + 1 + 1, 3, none⟩ = false := Lib.frozen_of_heap hh2 3
  have c2_4 : w2.cell? ⟨w.heap.size + 1 + 1, 4, none⟩ = some (.int .i64 0) := by rw [Lib.cell_of_heap hh2]; rfl
  have f2_4 : w2.frozen? ⟨w.heap.size + 1 + 1, 4, none⟩ = false := Lib.frozen_of_heap hh2 4
  clear hh2
  have HH3_2 := Lib.hid hh3
  have lt3 := heap_lt hh3
  have c3_0 : w2.cell? ⟨w1.heap.size, 0, none⟩ = some (.func (.func g) #[] cap) := by rw [Lib.cell_of_heap hh3]; rfl
  have c3_1 : w2.cell? ⟨w1.heap.size, 1, none⟩ = some (c) := by rw [Lib.cell_of_heap hh3]; rfl
  have c3_2 : w2.cell? ⟨w1.heap.size, 2, none⟩ = some (.nilFunc) := by rw [Lib.cell_of_heap hh3]; rfl
  have c3_3 : w2.cell? ⟨w1.heap.size, 3, none⟩ = some (.bool l) := by rw [Lib.cell_of_heap hh3]; rfl
  clear hh3
  have HH4_2 := Lib.hid hh4
  have lt4 := heap_lt hh4
  have c4_0 : w2.cell? ⟨w1.heap.size + 1, 0, none⟩ = some (.int .u8 k1) := by rw [Lib.cell_of_heap hh4]; rfl
  have c4_1 : w2.cell? ⟨w1.heap.size + 1, 1, none⟩ = some (.string nm1) := by rw [Lib.cell_of_heap hh4]; rfl
  have c4_2 : w2.cell? ⟨w1.heap.size + 1, 2, none⟩ = some (.string tx1) := by rw [Lib.cell_of_heap hh4]; rfl
  have c4_3 : w2.cell? ⟨w1.heap.size + 1, 3, none⟩ = some (.int .i64 n1) := by rw [Lib.cell_of_heap hh4]; rfl
  have c4_4 : w2.cell? ⟨w1.heap.size + 1, 4, none⟩ = some (.int .i64 m1) := by rw [Lib.cell_of_heap hh4]; rfl
  have c4_5 : w2.cell? ⟨w1.heap.size + 1, 5, none⟩ = some (.int .u8 k2) := by rw [Lib.cell_of_heap hh4]; rfl
  have c4_6 : w2.cell? ⟨w1.heap.size + 1, 6, none⟩ = some (.string nm2) := by rw [Lib.cell_of_heap hh4]; rfl
  have c4_7 : w2.cell? ⟨w1.heap.size + 1, 7, none⟩ = some (.string tx2) := by rw [Lib.cell_of_heap hh4]; rfl
  have c4_8 : w2.cell? ⟨w1.heap.size + 1, 8, none⟩ = some (.int .i64 n2) := by rw [Lib.cell_of_heap hh4]; rfl
  have c4_9 : w2.cell? ⟨w1.heap.size + 1, 9, none⟩ = some (.int .i64 m2) := by rw [Lib.cell_of_heap hh4]; rfl
  clear hh4
  have sz2 := hbw2.size
  have HW2 := Lib.hid hbw2
  clear hst0 hst1 hst2 hne
  go_wp2_with fail
  refine bodyPost_ret (v := .tuple #[.agg #[.int .u8 0, .string ⟨#[]⟩, .string ⟨#[]⟩, .int .i64 0, .int .i64 0], .int .i64 6]) (by simp [results, Tryz.results6, go_sem, c2_0, f2_0, c2_1, f2_1, c2_2, f2_2, c2_3, f2_3, c2_4, f2_4]; try rfl) rfl ?_
  refine ⟨rfl, ?_⟩
  repeat' (first | with_reducible exact HW2.out | with_reducible refine Below.setCell ?_ ?_ _ | with_reducible refine Below.alloc ?_ ?_ _)
  all_goals (first | exact Nat.le_refl _ | (dsimp only; omega) | omega | (simp; done) | (simp; omega))
set_option maxRecDepth 100000 in
set_option maxHeartbeats 4000000 in
theorem sadd_go (k : Int) (k1 : Int) (nm1 tx1 : ByteArray) (n1 m1 : Int) (k2 : Int) (nm2 tx2 : ByteArray) (n2 m2 : Int) (rk : Int) (rn rt : ByteArray) (ri rm : Int) (w : World)
    (HO : Hid (∀ W, Below w.heap.size w W → Calls Tryz.prog 13 #[.int .u8 k] W fun e w' => (∃ (g : Nat) (cap : Array Value) (c : Value) (ga : Nat) (l : Bool), e = .returned (.tuple #[.agg #[.func (.func g) #[] cap, c, .func (.func ga) #[] #[], .bool l], .int .i64 0]) ∧ Hid (c.oneCell' = true) ∧ Hid (∀ args w, (callFunc ga args).run Tryz.prog w = .ok (.enter ga args) w) ∧ Hid (DoesU w' 21 #[.agg #[.func (.func g) #[] cap, c, .func (.func ga) #[] #[], .bool l], .agg #[.int .u8 k1, .string nm1, .string tx1, .int .i64 n1, .int .i64 m1]] (.tuple #[.agg #[.int .u8 k1, .string nm1, .string tx1, .int .i64 n1, .int .i64 m1], .bool true])) ∧ Hid (DoesU w' 21 #[.agg #[.func (.func g) #[] cap, c, .func (.func ga) #[] #[], .bool l], .agg #[.int .u8 k2, .string nm2, .string tx2, .int .i64 n2, .int .i64 m2]] (.tuple #[.agg #[.int .u8 k2, .string nm2, .string tx2, .int .i64 n2, .int .i64 m2], .bool true])) ∧ Hid (DoesU w' ga #[.agg #[.int .u8 k1, .string nm1, .string tx1, .int .i64 n1, .int .i64 m1], .agg #[.int .u8 k2, .string nm2, .string tx2, .int .i64 n2, .int .i64 m2]] (.tuple #[.agg #[.int .u8 rk, .string rn, .string rt, .int .i64 ri, .int .i64 rm], .bool true]))) ∧ Below W.heap.size W w')) :
    Calls Tryz.prog 6 #[.int .u8 k, .agg #[.int .u8 k1, .string nm1, .string tx1, .int .i64 n1, .int .i64 m1], .agg #[.int .u8 k2, .string nm2, .string tx2, .int .i64 n2, .int .i64 m2]] w fun e w' => e = .returned (.tuple #[.agg #[.int .u8 rk, .string rn, .string rt, .int .i64 ri, .int .i64 rm], .int .i64 0]) ∧ Below w.heap.size w w' := by
  go_enter Tryz.func6, Tryz.ntmps6
  go_wp2_with fail
  refine (HO.out _ (by first | exact Below.refl _ _ | (go_grown; done))).mono ?_; rintro e w1 ⟨⟨g, cap, c, ga, l, rfl, HC, HE, HQ1, HQ2, HG⟩, hb⟩
  have hh0 : w1.heap[w.heap.size]? = some (.cells #[.int .u8 k1, .string nm1, .string tx1, .int .i64 n1, .int .i64 m1] 26 (0, 0)) := (hb.block _ (by first | omega | (simp; done) | (simp; omega))).trans (heap_old (o' := (.cells #[.int .u8 0, .string ⟨#[]⟩, .string ⟨#[]⟩, .int .i64 0, .int .i64 0] 26 (0, 0))) (heap_old (o' := (.cells #[.int .u8 k2, .string nm2, .string tx2, .int .i64 n2, .int .i64 m2] 26 (0, 0))) (heap_new _ _ _ (by first | rfl | simp))))
  have hh1 : w1.heap[w.heap.size + 1]? = some (.cells #[.int .u8 k2, .string nm2, .string tx2, .int .i64 n2, .int .i64 m2] 26 (0, 0)) := (hb.block _ (by first | omega | (simp; done) | (simp; omega))).trans (heap_old (o' := (.cells #[.int .u8 0, .string ⟨#[]⟩, .string ⟨#[]⟩, .int .i64 0, .int .i64 0] 26 (0, 0))) (heap_new _ _ _ (by first | rfl | simp)))
  have hh2 : w1.heap[w.heap.size + 1 + 1]? = some (.cells #[.int .u8 0, .string ⟨#[]⟩, .string ⟨#[]⟩, .int .i64 0, .int .i64 0] 26 (0, 0)) := (hb.block _ (by first | omega | (simp; done) | (simp; omega))).trans (heap_new _ _ _ (by first | rfl | simp))
  have hbw1 : Below w.heap.size w w1 := (show Below w.heap.size w _ by first | exact Below.refl _ _ | (go_grown; done)).trans (hb.mono (by first | omega | (simp; done) | (simp; omega)))
  clear hb
  have HH0_1 := Lib.hid hh0
  have lt0 := heap_lt hh0
  have c0_0 : w1.cell? ⟨w.heap.size, 0, none⟩ = some (.int .u8 k1) := by rw [Lib.cell_of_heap hh0]; rfl
  have c0_1 : w1.cell? ⟨w.heap.size, 1, none⟩ = some (.string nm1) := by rw [Lib.cell_of_heap hh0]; rfl
  have c0_2 : w1.cell? ⟨w.heap.size, 2, none⟩ = some (.string tx1) := by rw [Lib.cell_of_heap hh0]; rfl
  have c0_3 : w1.cell? ⟨w.heap.size, 3, none⟩ = some (.int .i64 n1) := by rw [Lib.cell_of_heap hh0]; rfl
  have c0_4 : w1.cell? ⟨w.heap.size, 4, none⟩ = some (.int .i64 m1) := by rw [Lib.cell_of_heap hh0]; rfl
  clear hh0
  have HH1_1 := Lib.hid hh1
  have lt1 := heap_lt hh1
  have c1_0 : w1.cell? ⟨w.heap.size + 1, 0, none⟩ = some (.int .u8 k2) := by rw [Lib.cell_of_heap hh1]; rfl
  have c1_1 : w1.cell? ⟨w.heap.size + 1, 1, none⟩ = some (.string nm2) := by rw [Lib.cell_of_heap hh1]; rfl
  have c1_2 : w1.cell? ⟨w.heap.size + 1, 2, none⟩ = some (.string tx2) := by rw [Lib.cell_of_heap hh1]; rfl
  have c1_3 : w1.cell? ⟨w.heap.size + 1, 3, none⟩ = some (.int .i64 n2) := by rw [Lib.cell_of_heap hh1]; rfl
  have c1_4 : w1.cell? ⟨w.heap.size + 1, 4, none⟩ = some (.int .i64 m2) := by rw [Lib.cell_of_heap hh1]; rfl
  clear hh1
  have HH2_1 := Lib.hid hh2
  have lt2 := heap_lt hh2
  have c2_0 : w1.cell? ⟨w.heap.size + 1 + 1, 0, none⟩ = some (.int .u8 0) := by rw [Lib.cell_of_heap hh2]; rfl
  have f2_0 : w1.frozen? ⟨w.heap.size + 1 + 1, 0, none⟩ = false := Lib.frozen_of_heap hh2 0
  have c2_1 : w1.cell? ⟨w.heap.size + 1 + 1, 1, none⟩ = some (.string ⟨#[]⟩) := by rw [Lib.cell_of_heap hh2]; rfl
  have f2_1 : w1.frozen? ⟨w.heap.size + 1 + 1, 1, none⟩ = false := Lib.frozen_of_heap hh2 1
  have c2_2 : w1.cell? ⟨w.heap.size + 1 + 1, 2, none⟩ = some (.string ⟨#[]⟩) := by rw [Lib.cell_of_heap hh2]; rfl
  have f2_2 : w1.frozen? ⟨w.heap.size + 1 + 1, 2, none⟩ = false := Lib.frozen_of_heap hh2 2
  have c2_3 : w1.cell? ⟨w.heap.size + 1 + 1, 3, none⟩ = some (.int .i64 0) := by rw [Lib.cell_of_heap hh2]; rfl
  have f2_3 : w1.frozen? ⟨w.heap.size + 1 + 1, 3, none⟩ = false := Lib.frozen_of_heap hh2 3
  have c2_4 : w1.cell? ⟨w.heap.size + 1 + 1, 4, none⟩ = some (.int .i64 0) := by rw [Lib.cell_of_heap hh2]; rfl
  have f2_4 : w1.frozen? ⟨w.heap.size + 1 + 1, 4, none⟩ = false := Lib.frozen_of_heap hh2 4
  clear hh2
  have sz1 := hbw1.size
  have HW1 := Lib.hid hbw1
  have hne := fun w => fun_add w ga
  have hst0 := (fun W b x hc hz => st_one Tryz.prog (.func (.func g) #[] cap) rfl W b x hc hz)
  have hst1 := (fun W b x hc hz => st_one Tryz.prog (c) HC.out W b x hc hz)
  have hst2 := (fun W b x hc hz => st_one Tryz.prog (.func (.func ga) #[] #[]) rfl W b x hc hz)
  go_wp2_with fail
  refine (asked_2 g cap (c) (.func (.func ga) #[] #[]) l k1 nm1 tx1 n1 m1 k2 nm2 tx2 n2 m2 _ _ (Lib.hid (heap_new _ _ _ (by first | rfl | simp))) (Lib.hid (HQ1.out.below (by first | exact Below.refl _ _ | (go_grown; done)))) (Lib.hid (HQ2.out.below (by first | exact Below.refl _ _ | (go_grown; done))))).mono ?_; rintro e w2 ⟨rfl, hb⟩
  have HBQ := Lib.hid ((show Below w1.heap.size w1 _ by first | exact Below.refl _ _ | (go_grown; done)).trans (hb.mono (by first | omega | (simp; done) | (simp; omega))))
  have hv0 := heap_old (o' := (.cells #[.int .u8 k1, .string nm1, .string tx1, .int .i64 n1, .int .i64 m1, .int .u8 k2, .string nm2, .string tx2, .int .i64 n2, .int .i64 m2] 26 (0, 0))) (heap_old (o' := (.cells #[.func (.func g) #[] cap, c, .func (.func ga) #[] #[], .bool l] 42 (0, 0))) (HH0_1.out))
  have hh0 : w2.heap[w.heap.size]? = some (.cells #[.int .u8 k1, .string nm1, .string tx1, .int .i64 n1, .int .i64 m1] 26 (0, 0)) := (hb.block _ (heap_lt hv0)).trans hv0
  clear hv0
  have hv1 := heap_old (o' := (.cells #[.int .u8 k1, .string nm1, .string tx1, .int .i64 n1, .int .i64 m1, .int .u8 k2, .string nm2, .string tx2, .int .i64 n2, .int .i64 m2] 26 (0, 0))) (heap_old (o' := (.cells #[.func (.func g) #[] cap, c, .func (.func ga) #[] #[], .bool l] 42 (0, 0))) (HH1_1.out))
  have hh1 : w2.heap[w.heap.size + 1]? = some (.cells #[.int .u8 k2, .string nm2, .string tx2, .int .i64 n2, .int .i64 m2] 26 (0, 0)) := (hb.block _ (heap_lt hv1)).trans hv1
  clear hv1
  have hv2 := heap_old (o' := (.cells #[.int .u8 k1, .string nm1, .string tx1, .int .i64 n1, .int .i64 m1, .int .u8 k2, .string nm2, .string tx2, .int .i64 n2, .int .i64 m2] 26 (0, 0))) (heap_old (o' := (.cells #[.func (.func g) #[] cap, c, .func (.func ga) #[] #[], .bool l] 42 (0, 0))) (HH2_1.out))
  have hh2 : w2.heap[w.heap.size + 1 + 1]? = some (.cells #[.int .u8 0, .string ⟨#[]⟩, .string ⟨#[]⟩, .int .i64 0, .int .i64 0] 26 (0, 0)) := (hb.block _ (heap_lt hv2)).trans hv2
  clear hv2
  have hh3 : w2.heap[w1.heap.size]? = some (.cells #[.func (.func g) #[] cap, c, .func (.func ga) #[] #[], .bool l] 42 (0, 0)) := (hb.block _ (by first | omega | (simp; done) | (simp; omega))).trans (heap_old (o' := (.cells #[.int .u8 k1, .string nm1, .string tx1, .int .i64 n1, .int .i64 m1, .int .u8 k2, .string nm2, .string tx2, .int .i64 n2, .int .i64 m2] 26 (0, 0))) (heap_new _ _ _ (by first | rfl | simp)))
  have hh4 : w2.heap[w1.heap.size + 1]? = some (.cells #[.int .u8 k1, .string nm1, .string tx1, .int .i64 n1, .int .i64 m1, .int .u8 k2, .string nm2, .string tx2, .int .i64 n2, .int .i64 m2] 26 (0, 0)) := (hb.block _ (by first | omega | (simp; done) | (simp; omega))).trans (heap_new _ _ _ (by first | rfl | simp))
  have hbw2 : Below w.heap.size w w2 := (show Below w.heap.size w _ by first | exact HW1.out.trans ⟨rfl, rfl, rfl, Nat.le_refl _, fun _ _ => rfl⟩ | exact HW1.out | (go_grown; done)).trans (hb.mono (by first | omega | (simp; done) | (simp; omega)))
  clear hb lt0 c0_0 c0_1 c0_2 c0_3 c0_4 lt1 c1_0 c1_1 c1_2 c1_3 c1_4 lt2 c2_0 f2_0 c2_1 f2_1 c2_2 f2_2 c2_3 f2_3 c2_4 f2_4 hbw1
  have HH0_2 := Lib.hid hh0
  have lt0 := heap_lt hh0
  have c0_0 : w2.cell? ⟨w.heap.size, 0, none⟩ = some (.int .u8 k1) := by rw [Lib.cell_of_heap hh0]; rfl
  have c0_1 : w2.cell? ⟨w.heap.size, 1, none⟩ = some (.string nm1) := by rw [Lib.cell_of_heap hh0]; rfl
  have c0_2 : w2.cell? ⟨w.heap.size, 2, none⟩ = some (.string tx1) := by rw [Lib.cell_of_heap hh0]; rfl
  have c0_3 : w2.cell? ⟨w.heap.size, 3, none⟩ = some (.int .i64 n1) := by rw [Lib.cell_of_heap hh0]; rfl
  have c0_4 : w2.cell? ⟨w.heap.size, 4, none⟩ = some (.int .i64 m1) := by rw [Lib.cell_of_heap hh0]; rfl
  clear hh0
  have HH1_2 := Lib.hid hh1
  have lt1 := heap_lt hh1
  have c1_0 : w2.cell? ⟨w.heap.size + 1, 0, none⟩ = some (.int .u8 k2) := by rw [Lib.cell_of_heap hh1]; rfl
  have c1_1 : w2.cell? ⟨w.heap.size + 1, 1, none⟩ = some (.string nm2) := by rw [Lib.cell_of_heap hh1]; rfl
  have c1_2 : w2.cell? ⟨w.heap.size + 1, 2, none⟩ = some (.string tx2) := by rw [Lib.cell_of_heap hh1]; rfl
  have c1_3 : w2.cell? ⟨w.heap.size + 1, 3, none⟩ = some (.int .i64 n2) := by rw [Lib.cell_of_heap hh1]; rfl
  have c1_4 : w2.cell? ⟨w.heap.size + 1, 4, none⟩ = some (.int .i64 m2) := by rw [Lib.cell_of_heap hh1]; rfl
  clear hh1
  have HH2_2 := Lib.hid hh2
  have lt2 := heap_lt hh2
  have c2_0 : w2.cell? ⟨w.heap.size + 1 + 1, 0, none⟩ = some (.int .u8 0) := by rw [Lib.cell_of_heap hh2]; rfl
  have f2_0 : w2.frozen? ⟨w.heap.size + 1 + 1, 0, none⟩ = false := Lib.frozen_of_heap hh2 0
  have c2_1 : w2.cell? ⟨w.heap.size + 1 + 1, 1, none⟩ = some (.string ⟨#[]⟩) := by rw [Lib.cell_of_heap hh2]; rfl
  have f2_1 : w2.frozen? ⟨w.heap.size + 1 + 1, 1, none⟩ = false := Lib.frozen_of_heap hh2 1
  have c2_2 : w2.cell? ⟨w.heap.size + 1 + 1, 2, none⟩ = some (.string ⟨#[]⟩) := by rw [Lib.cell_of_heap hh2]; rfl
  have f2_2 : w2.frozen? ⟨w.heap.size + 1 + 1, 2, none⟩ = false := Lib.frozen_of_heap hh2 2
  have c2_3 : w2.cell? ⟨w.heap.size + 1 + 1, 3, none⟩ = some (.int .i64 0) := by rw [Lib.cell_of_heap hh2]; rfl
  have f2_3 : w2.frozen? ⟨w.heap.size + 1 + 1, 3, none⟩ = false := Lib.frozen_of_heap hh2 3
  have c2_4 : w2.cell? ⟨w.heap.size + 1 + 1, 4, none⟩ = some (.int .i64 0) := by rw [Lib.cell_of_heap hh2]; rfl
  have f2_4 : w2.frozen? ⟨w.heap.size + 1 + 1, 4, none⟩ = false := Lib.frozen_of_heap hh2 4
  clear hh2
  have HH3_2 := Lib.hid hh3
  have lt3 := heap_lt hh3
  have c3_0 : w2.cell? ⟨w1.heap.size, 0, none⟩ = some (.func (.func g) #[] cap) := by rw [Lib.cell_of_heap hh3]; rfl
  have c3_1 : w2.cell? ⟨w1.heap.size, 1, none⟩ = some (c) := by rw [Lib.cell_of_heap hh3]; rfl
  have c3_2 : w2.cell? ⟨w1.heap.size, 2, none⟩ = some (.func (.func ga) #[] #[]) := by rw [Lib.cell_of_heap hh3]; rfl
  have c3_3 : w2.cell? ⟨w1.heap.size, 3, none⟩ = some (.bool l) := by rw [Lib.cell_of_heap hh3]; rfl
  clear hh3
  have HH4_2 := Lib.hid hh4
  have lt4 := heap_lt hh4
  have c4_0 : w2.cell? ⟨w1.heap.size + 1, 0, none⟩ = some (.int .u8 k1) := by rw [Lib.cell_of_heap hh4]; rfl
  have c4_1 : w2.cell? ⟨w1.heap.size + 1, 1, none⟩ = some (.string nm1) := by rw [Lib.cell_of_heap hh4]; rfl
  have c4_2 : w2.cell? ⟨w1.heap.size + 1, 2, none⟩ = some (.string tx1) := by rw [Lib.cell_of_heap hh4]; rfl
  have c4_3 : w2.cell? ⟨w1.heap.size + 1, 3, none⟩ = some (.int .i64 n1) := by rw [Lib.cell_of_heap hh4]; rfl
  have c4_4 : w2.cell? ⟨w1.heap.size + 1, 4, none⟩ = some (.int .i64 m1) := by rw [Lib.cell_of_heap hh4]; rfl
  have c4_5 : w2.cell? ⟨w1.heap.size + 1, 5, none⟩ = some (.int .u8 k2) := by rw [Lib.cell_of_heap hh4]; rfl
  have c4_6 : w2.cell? ⟨w1.heap.size + 1, 6, none⟩ = some (.string nm2) := by rw [Lib.cell_of_heap hh4]; rfl
  have c4_7 : w2.cell? ⟨w1.heap.size + 1, 7, none⟩ = some (.string tx2) := by rw [Lib.cell_of_heap hh4]; rfl
  have c4_8 : w2.cell? ⟨w1.heap.size + 1, 8, none⟩ = some (.int .i64 n2) := by rw [Lib.cell_of_heap hh4]; rfl
  have c4_9 : w2.cell? ⟨w1.heap.size + 1, 9, none⟩ = some (.int .i64 m2) := by rw [Lib.cell_of_heap hh4]; rfl
  clear hh4
  have sz2 := hbw2.size
  have HW2 := Lib.hid hbw2
  clear hst0 hst1 hst2 hne
  have eg := HE.out
  go_wp2_with fail
  refine (HG.out _ (by first | exact HBQ.out | (go_grown; done))).mono ?_; rintro e w3 ⟨rfl, hb⟩
  have hv0 := HH0_2.out
  have hh0 : w3.heap[w.heap.size]? = some (.cells #[.int .u8 k1, .string nm1, .string tx1, .int .i64 n1, .int .i64 m1] 26 (0, 0)) := (hb.block _ (heap_lt hv0)).trans hv0
  clear hv0
  have hv1 := HH1_2.out
  have hh1 : w3.heap[w.heap.size + 1]? = some (.cells #[.int .u8 k2, .string nm2, .string tx2, .int .i64 n2, .int .i64 m2] 26 (0, 0)) := (hb.block _ (heap_lt hv1)).trans hv1
  clear hv1
  have hv2 := HH2_2.out
  have hh2 : w3.heap[w.heap.size + 1 + 1]? = some (.cells #[.int .u8 0, .string ⟨#[]⟩, .string ⟨#[]⟩, .int .i64 0, .int .i64 0] 26 (0, 0)) := (hb.block _ (heap_lt hv2)).trans hv2
  clear hv2
  have hv3 := HH3_2.out
  have hh3 : w3.heap[w1.heap.size]? = some (.cells #[.func (.func g) #[] cap, c, .func (.func ga) #[] #[], .bool l] 42 (0, 0)) := (hb.block _ (heap_lt hv3)).trans hv3
  clear hv3
  have hv4 := HH4_2.out
  have hh4 : w3.heap[w1.heap.size + 1]? = some (.cells #[.int .u8 k1, .string nm1, .string tx1, .int .i64 n1, .int .i64 m1, .int .u8 k2, .string nm2, .string tx2, .int .i64 n2, .int .i64 m2] 26 (0, 0)) := (hb.block _ (heap_lt hv4)).trans hv4
  clear hv4
  have hbw3 : Below w.heap.size w w3 := (show Below w.heap.size w _ by first | exact HW2.out.trans ⟨rfl, rfl, rfl, Nat.le_refl _, fun _ _ => rfl⟩ | exact HW2.out | (go_grown; done)).trans (hb.mono (by first | omega | (simp; done) | (simp; omega)))
  clear hb lt0 c0_0 c0_1 c0_2 c0_3 c0_4 lt1 c1_0 c1_1 c1_2 c1_3 c1_4 lt2 c2_0 f2_0 c2_1 f2_1 c2_2 f2_2 c2_3 f2_3 c2_4 f2_4 lt3 c3_0 c3_1 c3_2 c3_3 lt4 c4_0 c4_1 c4_2 c4_3 c4_4 c4_5 c4_6 c4_7 c4_8 c4_9 hbw2
  have HH0_3 := Lib.hid hh0
  have lt0 := heap_lt hh0
  have c0_0 : w3.cell? ⟨w.heap.size, 0, none⟩ = some (.int .u8 k1) := by rw [Lib.cell_of_heap hh0]; rfl
  have c0_1 : w3.cell? ⟨w.heap.size, 1, none⟩ = some (.string nm1) := by rw [Lib.cell_of_heap hh0]; rfl
  have c0_2 : w3.cell? ⟨w.heap.size, 2, none⟩ = some (.string tx1) := by rw [Lib.cell_of_heap hh0]; rfl
  have c0_3 : w3.cell? ⟨w.heap.size, 3, none⟩ = some (.int .i64 n1) := by rw [Lib.cell_of_heap hh0]; rfl
  have c0_4 : w3.cell? ⟨w.heap.size, 4, none⟩ = some (.int .i64 m1) := by rw [Lib.cell_of_heap hh0]; rfl
  clear hh0
  have HH1_3 := Lib.hid hh1
  have lt1 := heap_lt hh1
  have c1_0 : w3.cell? ⟨w.heap.size + 1, 0, none⟩ = some (.int .u8 k2) := by rw [Lib.cell_of_heap hh1]; rfl
  have c1_1 : w3.cell? ⟨w.heap.size + 1, 1, none⟩ = some (.string nm2) := by rw [Lib.cell_of_heap hh1]; rfl
  have c1_2 : w3.cell? ⟨w.heap.size + 1, 2, none⟩ = some (.string tx2) := by rw [Lib.cell_of_heap hh1]; rfl
  have c1_3 : w3.cell? ⟨w.heap.size + 1, 3, none⟩ = some (.int .i64 n2) := by rw [Lib.cell_of_heap hh1]; rfl
  have c1_4 : w3.cell? ⟨w.heap.size + 1, 4, none⟩ = some (.int .i64 m2) := by rw [Lib.cell_of_heap hh1]; rfl
  clear hh1
  have HH2_3 := Lib.hid hh2
  have lt2 := heap_lt hh2
  have c2_0 : w3.cell? ⟨w.heap.size + 1 + 1, 0, none⟩ = some (.int .u8 0) := by rw [Lib.cell_of_heap hh2]; rfl
  have f2_0 : w3.frozen? ⟨w.heap.size + 1 + 1, 0, none⟩ = false := Lib.frozen_of_heap hh2 0
  have c2_1 : w3.cell? ⟨w.heap.size + 1 + 1, 1, none⟩ = some (.string ⟨#[]⟩) := by rw [Lib.cell_of_heap hh2]; rfl
  have f2_1 : w3.frozen? ⟨w.heap.size + 1 + 1, 1, none⟩ = false := Lib.frozen_of_heap hh2 1
  have c2_2 : w3.cell? ⟨w.heap.size + 1 + 1, 2, none⟩ = some (.string ⟨#[]⟩) := by rw [Lib.cell_of_heap hh2]; rfl
  have f2_2 : w3.frozen? ⟨w.heap.size + 1 + 1, 2, none⟩ = false := Lib.frozen_of_heap hh2 2
  have c2_3 : w3.cell? ⟨w.heap.size + 1 + 1, 3, none⟩ = some (.int .i64 0) := by rw [Lib.cell_of_heap hh2]; rfl
  have f2_3 : w3.frozen? ⟨w.heap.size + 1 + 1, 3, none⟩ = false := Lib.frozen_of_heap hh2 3
  have c2_4 : w3.cell? ⟨w.heap.size + 1 + 1, 4, none⟩ = some (.int .i64 0) := by rw [Lib.cell_of_heap hh2]; rfl
  have f2_4 : w3.frozen? ⟨w.heap.size + 1 + 1, 4, none⟩ = false := Lib.frozen_of_heap hh2 4
  clear hh2
  have HH3_3 := Lib.hid hh3
  have lt3 := heap_lt hh3
  have c3_0 : w3.cell? ⟨w1.heap.size, 0, none⟩ = some (.func (.func g) #[] cap) := by rw [Lib.cell_of_heap hh3]; rfl
  have c3_1 : w3.cell? ⟨w1.heap.size, 1, none⟩ = some (c) := by rw [Lib.cell_of_heap hh3]; rfl
  have c3_2 : w3.cell? ⟨w1.heap.size, 2, none⟩ = some (.func (.func ga) #[] #[]) := by rw [Lib.cell_of_heap hh3]; rfl
  have c3_3 : w3.cell? ⟨w1.heap.size, 3, none⟩ = some (.bool l) := by rw [Lib.cell_of_heap hh3]; rfl
  clear hh3
  have HH4_3 := Lib.hid hh4
  have lt4 := heap_lt hh4
  have c4_0 : w3.cell? ⟨w1.heap.size + 1, 0, none⟩ = some (.int .u8 k1) := by rw [Lib.cell_of_heap hh4]; rfl
  have c4_1 : w3.cell? ⟨w1.heap.size + 1, 1, none⟩ = some (.string nm1) := by rw [Lib.cell_of_heap hh4]; rfl
  have c4_2 : w3.cell? ⟨w1.heap.size + 1, 2, none⟩ = some (.string tx1) := by rw [Lib.cell_of_heap hh4]; rfl
  have c4_3 : w3.cell? ⟨w1.heap.size + 1, 3, none⟩ = some (.int .i64 n1) := by rw [Lib.cell_of_heap hh4]; rfl
  have c4_4 : w3.cell? ⟨w1.heap.size + 1, 4, none⟩ = some (.int .i64 m1) := by rw [Lib.cell_of_heap hh4]; rfl
  have c4_5 : w3.cell? ⟨w1.heap.size + 1, 5, none⟩ = some (.int .u8 k2) := by rw [Lib.cell_of_heap hh4]; rfl
  have c4_6 : w3.cell? ⟨w1.heap.size + 1, 6, none⟩ = some (.string nm2) := by rw [Lib.cell_of_heap hh4]; rfl
  have c4_7 : w3.cell? ⟨w1.heap.size + 1, 7, none⟩ = some (.string tx2) := by rw [Lib.cell_of_heap hh4]; rfl
  have c4_8 : w3.cell? ⟨w1.heap.size + 1, 8, none⟩ = some (.int .i64 n2) := by rw [Lib.cell_of_heap hh4]; rfl
  have c4_9 : w3.cell? ⟨w1.heap.size + 1, 9, none⟩ = some (.int .i64 m2) := by rw [Lib.cell_of_heap hh4]; rfl
  clear hh4
  have sz3 := hbw3.size
  have HW3 := Lib.hid hbw3
  clear eg
  go_wp2_with fail
  refine bodyPost_ret (v := .tuple #[.agg #[.int .u8 rk, .string rn, .string rt, .int .i64 ri, .int .i64 rm], .int .i64 0]) (by simp [results, Tryz.results6, go_sem, lt2, c2_0, f2_0, c2_1, f2_1, c2_2, f2_2, c2_3, f2_3, c2_4, f2_4]; try rfl) rfl ?_
  refine ⟨rfl, ?_⟩
  repeat' (first | with_reducible exact HW3.out | with_reducible refine Below.setCell ?_ ?_ _ | with_reducible refine Below.alloc ?_ ?_ _)
  all_goals (first | exact Nat.le_refl _ | (dsimp only; omega) | omega | (simp; done) | (simp; omega))
set_option maxRecDepth 100000 in
set_option maxHeartbeats 4000000 in
theorem sadd_over (k : Int) (k1 : Int) (nm1 tx1 : ByteArray) (n1 m1 : Int) (k2 : Int) (nm2 tx2 : ByteArray) (n2 m2 : Int) (rk : Int) (rn rt : ByteArray) (ri rm : Int) (w : World)
    (HO : Hid (∀ W, Below w.heap.size w W → Calls Tryz.prog 13 #[.int .u8 k] W fun e w' => (∃ (g : Nat) (cap : Array Value) (c : Value) (ga : Nat) (l : Bool), e = .returned (.tuple #[.agg #[.func (.func g) #[] cap, c, .func (.func ga) #[] #[], .bool l], .int .i64 0]) ∧ Hid (c.oneCell' = true) ∧ Hid (∀ args w, (callFunc ga args).run Tryz.prog w = .ok (.enter ga args) w) ∧ Hid (DoesU w' 21 #[.agg #[.func (.func g) #[] cap, c, .func (.func ga) #[] #[], .bool l], .agg #[.int .u8 k1, .string nm1, .string tx1, .int .i64 n1, .int .i64 m1]] (.tuple #[.agg #[.int .u8 k1, .string nm1, .string tx1, .int .i64 n1, .int .i64 m1], .bool true])) ∧ Hid (DoesU w' 21 #[.agg #[.func (.func g) #[] cap, c, .func (.func ga) #[] #[], .bool l], .agg #[.int .u8 k2, .string nm2, .string tx2, .int .i64 n2, .int .i64 m2]] (.tuple #[.agg #[.int .u8 k2, .string nm2, .string tx2, .int .i64 n2, .int .i64 m2], .bool true])) ∧ Hid (DoesU w' ga #[.agg #[.int .u8 k1, .string nm1, .string tx1, .int .i64 n1, .int .i64 m1], .agg #[.int .u8 k2, .string nm2, .string tx2, .int .i64 n2, .int .i64 m2]] (.tuple #[.agg #[.int .u8 rk, .string rn, .string rt, .int .i64 ri, .int .i64 rm], .bool false]))) ∧ Below W.heap.size W w')) :
    Calls Tryz.prog 6 #[.int .u8 k, .agg #[.int .u8 k1, .string nm1, .string tx1, .int .i64 n1, .int .i64 m1], .agg #[.int .u8 k2, .string nm2, .string tx2, .int .i64 n2, .int .i64 m2]] w fun e w' => e = .returned (.tuple #[.agg #[.int .u8 0, .string ⟨#[]⟩, .string ⟨#[]⟩, .int .i64 0, .int .i64 0], .int .i64 20]) ∧ Below w.heap.size w w' := by
  go_enter Tryz.func6, Tryz.ntmps6
  go_wp2_with fail
  refine (HO.out _ (by first | exact Below.refl _ _ | (go_grown; done))).mono ?_; rintro e w1 ⟨⟨g, cap, c, ga, l, rfl, HC, HE, HQ1, HQ2, HG⟩, hb⟩
  have hh0 : w1.heap[w.heap.size]? = some (.cells #[.int .u8 k1, .string nm1, .string tx1, .int .i64 n1, .int .i64 m1] 26 (0, 0)) := (hb.block _ (by first | omega | (simp; done) | (simp; omega))).trans (heap_old (o' := (.cells #[.int .u8 0, .string ⟨#[]⟩, .string ⟨#[]⟩, .int .i64 0, .int .i64 0] 26 (0, 0))) (heap_old (o' := (.cells #[.int .u8 k2, .string nm2, .string tx2, .int .i64 n2, .int .i64 m2] 26 (0, 0))) (heap_new _ _ _ (by first | rfl | simp))))
  have hh1 : w1.heap[w.heap.size + 1]? = some (.cells #[.int .u8 k2, .string nm2, .string tx2, .int .i64 n2, .int .i64 m2] 26 (0, 0)) := (hb.block _ (by first | omega | (simp; done) | (simp; omega))).trans (heap_old (o' := (.cells #[.int .u8 0, .string ⟨#[]⟩, .string ⟨#[]⟩, .int .i64 0, .int .i64 0] 26 (0, 0))) (heap_new _ _ _ (by first | rfl | simp)))
  have hh2 : w1.heap[w.heap.size + 1 + 1]? = some (.cells #[.int .u8 0, .string ⟨#[]⟩, .string ⟨#[]⟩, .int .i64 0, .int .i64 0] 26 (0, 0)) := (hb.block _ (by first | omega | (simp; done) | (simp; omega))).trans (heap_new _ _ _ (by first | rfl | simp))
  have hbw1 : Below w.heap.size w w1 := (show Below w.heap.size w _ by first | exact Below.refl _ _ | (go_grown; done)).trans (hb.mono (by first | omega | (simp; done) | (simp; omega)))
  clear hb
  have HH0_1 := Lib.hid hh0
  have lt0 := heap_lt hh0
  have c0_0 : w1.cell? ⟨w.heap.size, 0, none⟩ = some (.int .u8 k1) := by rw [Lib.cell_of_heap hh0]; rfl
  have c0_1 : w1.cell? ⟨w.heap.size, 1, none⟩ = some (.string nm1) := by rw [Lib.cell_of_heap hh0]; rfl
  have c0_2 : w1.cell? ⟨w.heap.size, 2, none⟩ = some (.string tx1) := by rw [Lib.cell_of_heap hh0]; rfl
  have c0_3 : w1.cell? ⟨w.heap.size, 3, none⟩ = some (.int .i64 n1) := by rw [Lib.cell_of_heap hh0]; rfl
  have c0_4 : w1.cell? ⟨w.heap.size, 4, none⟩ = some (.int .i64 m1) := by rw [Lib.cell_of_heap hh0]; rfl
  clear hh0
  have HH1_1 := Lib.hid hh1
  have lt1 := heap_lt hh1
  have c1_0 : w1.cell? ⟨w.heap.size + 1, 0, none⟩ = some (.int .u8 k2) := by rw [Lib.cell_of_heap hh1]; rfl
  have c1_1 : w1.cell? ⟨w.heap.size + 1, 1, none⟩ = some (.string nm2) := by rw [Lib.cell_of_heap hh1]; rfl
  have c1_2 : w1.cell? ⟨w.heap.size + 1, 2, none⟩ = some (.string tx2) := by rw [Lib.cell_of_heap hh1]; rfl
  have c1_3 : w1.cell? ⟨w.heap.size + 1, 3, none⟩ = some (.int .i64 n2) := by rw [Lib.cell_of_heap hh1]; rfl
  have c1_4 : w1.cell? ⟨w.heap.size + 1, 4, none⟩ = some (.int .i64 m2) := by rw [Lib.cell_of_heap hh1]; rfl
  clear hh1
  have HH2_1 := Lib.hid hh2
  have lt2 := heap_lt hh2
  have c2_0 : w1.cell? ⟨w.heap.size + 1 + 1, 0, none⟩ = some (.int .u8 0) := by rw [Lib.cell_of_heap hh2]; rfl
  have f2_0 : w1.frozen? ⟨w.heap.size + 1 + 1, 0, none⟩ = false := Lib.frozen_of_heap hh2 0
  have c2_1 : w1.cell? ⟨w.heap.size + 1 + 1, 1, none⟩ = some (.string ⟨#[]⟩) := by rw [Lib.cell_of_heap hh2]; rfl
  have f2_1 : w1.frozen? ⟨w.heap.size + 1 + 1, 1, none⟩ = false := Lib.frozen_of_heap hh2 1
  have c2_2 : w1.cell? ⟨w.heap.size + 1 + 1, 2, none⟩ = some (.string ⟨#[]⟩) := by rw [Lib.cell_of_heap hh2]; rfl
  have f2_2 : w1.frozen? ⟨w.heap.size + 1 + 1, 2, none⟩ = false := Lib.frozen_of_heap hh2 2
  have c2_3 : w1.cell? ⟨w.heap.size + 1 + 1, 3, none⟩ = some (.int .i64 0) := by rw [Lib.cell_of_heap hh2]; rfl
  have f2_3 : w1.frozen? ⟨w.heap.size + 1 + 1, 3, none⟩ = false := Lib.frozen_of_heap hh2 3
  have c2_4 : w1.cell? ⟨w.heap.size + 1 + 1, 4, none⟩ = some (.int .i64 0) := by rw [Lib.cell_of_heap hh2]; rfl
  have f2_4 : w1.frozen? ⟨w.heap.size + 1 + 1, 4, none⟩ = false := Lib.frozen_of_heap hh2 4
  clear hh2
  have sz1 := hbw1.size
  have HW1 := Lib.hid hbw1
  have hne := fun w => fun_add w ga
  have hst0 := (fun W b x hc hz => st_one Tryz.prog (.func (.func g) #[] cap) rfl W b x hc hz)
  have hst1 := (fun W b x hc hz => st_one Tryz.prog (c) HC.out W b x hc hz)
  have hst2 := (fun W b x hc hz => st_one Tryz.prog (.func (.func ga) #[] #[]) rfl W b x hc hz)
  go_wp2_with fail
  refine (asked_2 g cap (c) (.func (.func ga) #[] #[]) l k1 nm1 tx1 n1 m1 k2 nm2 tx2 n2 m2 _ _ (Lib.hid (heap_new _ _ _ (by first | rfl | simp))) (Lib.hid (HQ1.out.below (by first | exact Below.refl _ _ | (go_grown; done)))) (Lib.hid (HQ2.out.below (by first | exact Below.refl _ _ | (go_grown; done))))).mono ?_; rintro e w2 ⟨rfl, hb⟩
  have HBQ := Lib.hid ((show Below w1.heap.size w1 _ by first | exact Below.refl _ _ | (go_grown; done)).trans (hb.mono (by first | omega | (simp; done) | (simp; omega))))
  have hv0 := heap_old (o' := (.cells #[.int .u8 k1, .string nm1, .string tx1, .int .i64 n1, .int .i64 m1, .int .u8 k2, .string nm2, .string tx2, .int .i64 n2, .int .i64 m2] 26 (0, 0))) (heap_old (o' := (.cells #[.func (.func g) #[] cap, c, .func (.func ga) #[] #[], .bool l] 42 (0, 0))) (HH0_1.out))
  have hh0 : w2.heap[w.heap.size]? = some (.cells #[.int .u8 k1, .string nm1, .string tx1, .int .i64 n1, .int .i64 m1] 26 (0, 0)) := (hb.block _ (heap_lt hv0)).trans hv0
  clear hv0
  have hv1 := heap_old (o' := (.cells #[.int .u8 k1, .string nm1, .string tx1, .int .i64 n1, .int .i64 m1, .int .u8 k2, .string nm2, .string tx2, .int .i64 n2, .int .i64 m2] 26 (0, 0))) (heap_old (o' := (.cells #[.func (.func g) #[] cap, c, .func (.func ga) #[] #[], .bool l] 42 (0, 0))) (HH1_1.out))
  have hh1 : w2.heap[w.heap.size + 1]? = some (.cells #[.int .u8 k2, .string nm2, .string tx2, .int .i64 n2, .int .i64 m2] 26 (0, 0)) := (hb.block _ (heap_lt hv1)).trans hv1
  clear hv1
  have hv2 := heap_old (o' := (.cells #[.int .u8 k1, .string nm1, .string tx1, .int .i64 n1, .int .i64 m1, .int .u8 k2, .string nm2, .string tx2, .int .i64 n2, .int .i64 m2] 26 (0, 0))) (heap_old (o' := (.cells #[.func (.func g) #[] cap, c, .func (.func ga) #[] #[], .bool l] 42 (0, 0))) (HH2_1.out))
  have hh2 : w2.heap[w.heap.size + 1 + 1]? = some (.cells #[.int .u8 0, .string ⟨#[]⟩, .string ⟨#[]⟩, .int .i64 0, .int .i64 0] 26 (0, 0)) := (hb.block _ (heap_lt hv2)).trans hv2
  clear hv2
  have hh3 : w2.heap[w1.heap.size]? = some (.cells #[.func (.func g) #[] cap, c, .func (.func ga) #[] #[], .bool l] 42 (0, 0)) := (hb.block _ (by first | omega | (simp; done) | (simp; omega))).trans (heap_old (o' := (.cells #[.int .u8 k1, .string nm1, .string tx1, .int .i64 n1, .int .i64 m1, .int .u8 k2, .string nm2, .string tx2, .int .i64 n2, .int .i64 m2] 26 (0, 0))) (heap_new _ _ _ (by first | rfl | simp)))
  have hh4 : w2.heap[w1.heap.size + 1]? = some (.cells #[.int .u8 k1, .string nm1, .string tx1, .int .i64 n1, .int .i64 m1, .int .u8 k2, .string nm2, .string tx2, .int .i64 n2, .int .i64 m2] 26 (0, 0)) := (hb.block _ (by first | omega | (simp; done) | (simp; omega))).trans (heap_new _ _ _ (by first | rfl | simp))
  have hbw2 : Below w.heap.size w w2 := (show Below w.heap.size w _ by first | exact HW1.out.trans ⟨rfl, rfl, rfl, Nat.le_refl _, fun _ _ => rfl⟩ | exact HW1.out | (go_grown; done)).trans (hb.mono (by first | omega | (simp; done) | (simp; omega)))
  clear hb lt0 c0_0 c0_1 c0_2 c0_3 c0_4 lt1 c1_0 c1_1 c1_2 c1_3 c1_4 lt2 c2_0 f2_0 c2_1 f2_1 c2_2 f2_2 c2_3 f2_3 c2_4 f2_4 hbw1
  have HH0_2 := Lib.hid hh0
  have lt0 := heap_lt hh0
  have c0_0 : w2.cell? ⟨w.heap.size, 0, none⟩ = some (.int .u8 k1) := by rw [Lib.cell_of_heap hh0]; rfl
  have c0_1 : w2.cell? ⟨w.heap.size, 1, none⟩ = some (.string nm1) := by rw [Lib.cell_of_heap hh0]; rfl
  have c0_2 : w2.cell? ⟨w.heap.size, 2, none⟩ = some (.string tx1) := by rw [Lib.cell_of_heap hh0]; rfl
  have c0_3 : w2.cell? ⟨w.heap.size, 3, none⟩ = some (.int .i64 n1) := by rw [Lib.cell_of_heap hh0]; rfl
  have c0_4 : w2.cell? ⟨w.heap.size, 4, none⟩ = some (.int .i64 m1) := by rw [Lib.cell_of_heap hh0]; rfl
  clear hh0
  have HH1_2 := Lib.hid hh1
  have lt1 := heap_lt hh1
  have c1_0 : w2.cell? ⟨w.heap.size + 1, 0, none⟩ = some (.int .u8 k2) := by rw [Lib.cell_of_heap hh1]; rfl
  have c1_1 : w2.cell? ⟨w.heap.size + 1, 1, none⟩ = some (.string nm2) := by rw [Lib.cell_of_heap hh1]; rfl
  have c1_2 : w2.cell? ⟨w.heap.size + 1, 2, none⟩ = some (.string tx2) := by rw [Lib.cell_of_heap hh1]; rfl
  have c1_3 : w2.cell? ⟨w.heap.size + 1, 3, none⟩ = some (.int .i64 n2) := by rw [Lib.cell_of_heap hh1]; rfl
  have c1_4 : w2.cell? ⟨w.heap.size + 1, 4, none⟩ = some (.int .i64 m2) := by rw [Lib.cell_of_heap hh1]; rfl
  clear hh1
  have HH2_2 := Lib.hid hh2
  have lt2 := heap_lt hh2
  have c2_0 : w2.cell? ⟨w.heap.size + 1 + 1, 0, none⟩ = some (.int .u8 0) := by rw [Lib.cell_of_heap hh2]; rfl
  have f2_0 : w2.frozen? ⟨w.heap.size + 1 + 1, 0, none⟩ = false := Lib.frozen_of_heap hh2 0
  have c2_1 : w2.cell? ⟨w.heap.size + 1 + 1, 1, none⟩ = some (.string ⟨#[]⟩) := by rw [Lib.cell_of_heap hh2]; rfl
  have f2_1 : w2.frozen? ⟨w.heap.size + 1 + 1, 1, none⟩ = false := Lib.frozen_of_heap hh2 1
  have c2_2 : w2.cell? ⟨w.heap.size + 1 + 1, 2, none⟩ = some (.string ⟨#[]⟩) := by rw [Lib.cell_of_heap hh2]; rfl
  have f2_2 : w2.frozen? ⟨w.heap.size + 1 + 1, 2, none⟩ = false := Lib.frozen_of_heap hh2 2
  have c2_3 : w2.cell? ⟨w.heap.size + 1 + 1, 3, none⟩ = some (.int .i64 0) := by rw [Lib.cell_of_heap hh2]; rfl
  have f2_3 : w2.frozen? ⟨w.heap.size + 1 + 1, 3, none⟩ = false := Lib.frozen_of_heap hh2 3
  have c2_4 : w2.cell? ⟨w.heap.size + 1 + 1, 4, none⟩ = some (.int .i64 0) := by rw [Lib.cell_of_heap hh2]; rfl
  have f2_4 : w2.frozen? ⟨w.heap.size + 1 + 1, 4, none⟩ = false := Lib.frozen_of_heap hh2 4
  clear hh2
  have HH3_2 := Lib.hid hh3
  have lt3 := heap_lt hh3
  have c3_0 : w2.cell? ⟨w1.heap.size, 0, none⟩ = some (.func (.func g) #[] cap) := by rw [Lib.cell_of_heap hh3]; rfl
  have c3_1 : w2.cell? ⟨w1.heap.size, 1, none⟩ = some (c) := by rw [Lib.cell_of_heap hh3]; rfl
  have c3_2 : w2.cell? ⟨w1.heap.size, 2, none⟩ = some (.func (.func ga) #[] #[]) := by rw [Lib.cell_of_heap hh3]; rfl
  have c3_3 : w2.cell? ⟨w1.heap.size, 3, none⟩ = some (.bool l) := by rw [Lib.cell_of_heap hh3]; rfl
  clear hh3
  have HH4_2 := Lib.hid hh4
  have lt4 := heap_lt hh4
  have c4_0 : w2.cell? ⟨w1.heap.size + 1, 0, none⟩ = some (.int .u8 k1) := by rw [Lib.cell_of_heap hh4]; rfl
  have c4_1 : w2.cell? ⟨w1.heap.size + 1, 1, none⟩ = some (.string nm1) := by rw [Lib.cell_of_heap hh4]; rfl
  have c4_2 : w2.cell? ⟨w1.heap.size + 1, 2, none⟩ = some (.string tx1) := by rw [Lib.cell_of_heap hh4]; rfl
  have c4_3 : w2.cell? ⟨w1.heap.size + 1, 3, none⟩ = some (.int .i64 n1) := by rw [Lib.cell_of_heap hh4]; rfl
  have c4_4 : w2.cell? ⟨w1.heap.size + 1, 4, none⟩ = some (.int .i64 m1) := by rw [Lib.cell_of_heap hh4]; rfl
  have c4_5 : w2.cell? ⟨w1.heap.size + 1, 5, none⟩ = some (.int .u8 k2) := by rw [Lib.cell_of_heap hh4]; rfl
  have c4_6 : w2.cell? ⟨w1.heap.size + 1, 6, none⟩ = some (.string nm2) := by rw [Lib.cell_of_heap hh4]; rfl
  have c4_7 : w2.cell? ⟨w1.heap.size + 1, 7, none⟩ = some (.string tx2) := by rw [Lib.cell_of_heap hh4]; rfl
  have c4_8 : w2.cell? ⟨w1.heap.size + 1, 8, none⟩ = some (.int .i64 n2) := by rw [Lib.cell_of_heap hh4]; rfl
  have c4_9 : w2.cell? ⟨w1.heap.size + 1, 9, none⟩ = some (.int .i64 m2) := by rw [Lib.cell_of_heap hh4]; rfl
  clear hh4
  have sz2 := hbw2.size
  have HW2 := Lib.hid hbw2
  clear hst0 hst1 hst2 hne
  have eg := HE.out
  go_wp2_with fail
  refine (HG.out _ (by first | exact HBQ.out | (go_grown; done))).mono ?_; rintro e w3 ⟨rfl, hb⟩
  have hv0 := HH0_2.out
  have hh0 : w3.heap[w.heap.size]? = some (.cells #[.int .u8 k1, .string nm1, .string tx1, .int .i64 n1, .int .i64 m1] 26 (0, 0)) := (hb.block _ (heap_lt hv0)).trans hv0
  clear hv0
  have hv1 := HH1_2.out
  have hh1 : w3.heap[w.heap.size + 1]? = some (.cells #[.int .u8 k2, .string nm2, .string tx2, .int .i64 n2, .int .i64 m2] 26 (0, 0)) := (hb.block _ (heap_lt hv1)).trans hv1
  clear hv1
  have hv2 := HH2_2.out
  have hh2 : w3.heap[w.heap.size + 1 + 1]? = some (.cells #[.int .u8 0, .string ⟨#[]⟩, .string ⟨#[]⟩, .int .i64 0, .int .i64 0] 26 (0, 0)) := (hb.block _ (heap_lt hv2)).trans hv2
  clear hv2
  have hv3 := HH3_2.out
  have hh3 : w3.heap[w1.heap.size]? = some (.cells #[.func (.func g) #[] cap, c, .func (.func ga) #[] #[], .bool l] 42 (0, 0)) := (hb.block _ (heap_lt hv3)).trans hv3
  clear hv3
  have hv4 := HH4_2.out
  have hh4 : w3.heap[w1.heap.size + 1]? = some (.cells #[.int .u8 k1, .string nm1, .string tx1, .int .i64 n1, .int .i64 m1, .int .u8 k2, .string nm2, .string tx2, .int .i64 n2, .int .i64 m2] 26 (0, 0)) := (hb.block _ (heap_lt hv4)).trans hv4
  clear hv4
  have hbw3 : Below w.heap.size w w3 := (show Below w.heap.size w _ by first | exact HW2.out.trans ⟨rfl, rfl, rfl, Nat.le_refl _, fun _ _ => rfl⟩ | exact HW2.out | (go_grown; done)).trans (hb.mono (by first | omega | (simp; done) | (simp; omega)))
  clear hb lt0 c0_0 c0_1 c0_2 c0_3 c0_4 lt1 c1_0 c1_1 c1_2 c1_3 c1_4 lt2 c2_0 f2_0 c2_1 f2_1 c2_2 f2_2 c2_3 f2_3 c2_4 f2_4 lt3 c3_0 c3_1 c3_2 c3_3 lt4 c4_0 c4_1 c4_2 c4_3 c4_4 c4_5 c4_6 c4_7 c4_8 c4_9 hbw2
  have HH0_3 := Lib.hid hh0
  have lt0 := heap_lt hh0
  have c0_0 : w3.cell? ⟨w.heap.size, 0, none⟩ = some (.int .u8 k1) := by rw [Lib.cell_of_heap hh0]; rfl
  have c0_1 : w3.cell? ⟨w.heap.size, 1, none⟩ = some (.string nm1) := by rw [Lib.cell_of_heap hh0]; rfl
  have c0_2 : w3.cell? ⟨w.heap.size, 2, none⟩ = some (.string tx1) := by rw [Lib.cell_of_heap hh0]; rfl
  have c0_3 : w3.cell? ⟨w.heap.size, 3, none⟩ = some (.int .i64 n1) := by rw [Lib.cell_of_heap hh0]; rfl
  have c0_4 : w3.cell? ⟨w.heap.size, 4, none⟩ = some (.int .i64 m1) := by rw [Lib.cell_of_heap hh0]; rfl
  clear hh0
  have HH1_3 := Lib.hid hh1
  have lt1 := heap_lt hh1
  have c1_0 : w3.cell? ⟨w.heap.size + 1, 0, none⟩ = some (.int .u8 k2) := by rw [Lib.cell_of_heap hh1]; rfl
  have c1_1 : w3.cell? ⟨w.heap.size + 1, 1, none⟩ = some (.string nm2) := by rw [Lib.cell_of_heap hh1]; rfl
  have c1_2 : w3.cell? ⟨w.heap.size + 1, 2, none⟩ = some (.string tx2) := by rw [Lib.cell_of_heap hh1]; rfl
  have c1_3 : w3.cell? ⟨w.heap.size + 1, 3, none⟩ = some (.int .i64 n2) := by rw [Lib.cell_of_heap hh1]; rfl
  have c1_4 : w3.cell? ⟨w.heap.size + 1, 4, none⟩ = some (.int .i64 m2) := by rw [Lib.cell_of_heap hh1]; rfl
  clear hh1
  have HH2_3 := Lib.hid hh2
  have lt2 := heap_lt hh2
  have c2_0 : w3.cell? ⟨w.heap.size + 1 + 1, 0, none⟩ = some (.int .u8 0) := by rw [Lib.cell_of_heap hh2]; rfl
  have f2_0 : w3.frozen? ⟨w.heap.size + 1 + 1, 0, none⟩ = false := Lib.frozen_of_heap hh2 0
  have c2_1 : w3.cell? ⟨w.heap.size + 1 + 1, 1, none⟩ = some (.string ⟨#[]⟩) := by rw [Lib.cell_of_heap hh2]; rfl
  have f2_1 : w3.frozen? ⟨w.heap.size + 1 + 1, 1, none⟩ = false := Lib.frozen_of_heap hh2 1
  have c2_2 : w3.cell? ⟨w.heap.size + 1 + 1, 2, none⟩ = some (.string ⟨#[]⟩) := by rw [Lib.cell_of_heap hh2]; rfl
  have f2_2 : w3.frozen? ⟨w.heap.size + 1 + 1, 2, none⟩ = false := Lib.frozen_of_heap hh2 2
  have c2_3 : w3.cell? ⟨w.heap.size + 1 + 1, 3, none⟩ = some (.int .i64 0) := by rw [Lib.cell_of_heap hh2]; rfl
  have f2_3 : w3.frozen? ⟨w.heap.size + 1 + 1, 3, none⟩ = false := Lib.frozen_of_heap hh2 3
  have c2_4 : w3.cell? ⟨w.heap.size + 1 + 1, 4, none⟩ = some (.int .i64 0) := by rw [Lib.cell_of_heap hh2]; rfl
  have f2_4 : w3.frozen? ⟨w.heap.size + 1 + 1, 4, none⟩ = false := Lib.frozen_of_heap hh2 4
  clear hh2
  have HH3_3 := Lib.hid hh3
  have lt3 := heap_lt hh3
  have c3_0 : w3.cell? ⟨w1.heap.size, 0, none⟩ = some (.func (.func g) #[] cap) := by rw [Lib.cell_of_heap hh3]; rfl
  have c3_1 : w3.cell? ⟨w1.heap.size, 1, none⟩ = some (c) := by rw [Lib.cell_of_heap hh3]; rfl
  have c3_2 : w3.cell? ⟨w1.heap.size, 2, none⟩ = some (.func (.func ga) #[] #[]) := by rw [Lib.cell_of_heap hh3]; rfl
  have c3_3 : w3.cell? ⟨w1.heap.size, 3, none⟩ = some (.bool l) := by rw [Lib.cell_of_heap hh3]; rfl
  clear hh3
  have HH4_3 := Lib.hid hh4
  have lt4 := heap_lt hh4
  have c4_0 : w3.cell? ⟨w1.heap.size + 1, 0, none⟩ = some (.int .u8 k1) := by rw [Lib.cell_of_heap hh4]; rfl
  have c4_1 : w3.cell? ⟨w1.heap.size + 1, 1, none⟩ = some (.string nm1) := by rw [Lib.cell_of_heap hh4]; rfl
  have c4_2 : w3.cell? ⟨w1.heap.size + 1, 2, none⟩ = some (.string tx1) := by rw [Lib.cell_of_heap hh4]; rfl
  have c4_3 : w3.cell? ⟨w1.heap.size + 1, 3, none⟩ = some (.int .i64 n1) := by rw [Lib.cell_of_heap hh4]; rfl
  have c4_4 : w3.cell? ⟨w1.heap.size + 1, 4, none⟩ = some (.int .i64 m1) := by rw [Lib.cell_of_heap hh4]; rfl
  have c4_5 : w3.cell? ⟨w1.heap.size + 1, 5, none⟩ = some (.int .u8 k2) := by rw [Lib.cell_of_heap hh4]; rfl
  have c4_6 : w3.cell? ⟨w1.heap.size + 1, 6, none⟩ = some (.string nm2) := by rw [Lib.cell_of_heap hh4]; rfl
  have c4_7 : w3.cell? ⟨w1.heap.size + 1, 7, none⟩ = some (.string tx2) := by rw [Lib.cell_of_heap hh4]; rfl
  have c4_8 : w3.cell? ⟨w1.heap.size + 1, 8, none⟩ = some (.int .i64 n2) := by rw [Lib.cell_of_heap hh4]; rfl
  have c4_9 : w3.cell? ⟨w1.heap.size + 1, 9, none⟩ = some (.int .i64 m2) := by rw [Lib.cell_of_heap hh4]; rfl
  clear hh4
  have sz3 := hbw3.size
  have HW3 := Lib.hid hbw3
  clear eg
  go_wp2_with fail
  refine bodyPost_ret (v := .tuple #[.agg #[.int .u8 0, .string ⟨#[]⟩, .string ⟨#[]⟩, .int .i64 0, .int .i64 0], .int .i64 20]) (by simp [results, Tryz.results6, go_sem, lt2, c2_0, f2_0, c2_1, f2_1, c2_2, f2_2, c2_3, f2_3, c2_4, f2_4]; try rfl) rfl ?_
  refine ⟨rfl, ?_⟩
  repeat' (first | with_reducible exact HW3.out | with_reducible refine Below.setCell ?_ ?_ _ | with_reducible refine Below.alloc ?_ ?_ _)
  all_goals (first | exact Nat.le_refl _ | (dsimp only; omega) | omega | (simp; done) | (simp; omega))
set_option maxRecDepth 100000 in
set_option maxHeartbeats 4000000 in
theorem slong_none (k : Int) (k1 : Int) (nm1 tx1 : ByteArray) (n1 m1 : Int) (w : World)
    (HO : Hid (∀ W, Below w.heap.size w W → Calls Tryz.prog 13 #[.int .u8 k] W fun e w' => (∃ (g : Nat) (cap : Array Value) (c a : Value), e = .returned (.tuple #[.agg #[.func (.func g) #[] cap, c, a, .bool false], .int .i64 0]) ∧ Hid (c.oneCell' = true ∧ a.oneCell' = true)) ∧ Below W.heap.size W w')) :
    Calls Tryz.prog 10 #[.int .u8 k, .agg #[.int .u8 k1, .string nm1, .string tx1, .int .i64 n1, .int .i64 m1]] w fun e w' => e = .returned (.tuple #[.int .i64 0, .int .i64 6]) ∧ Below w.heap.size w w' := by
  go_enter Tryz.func10, Tryz.ntmps10
  go_wp2_with fail
  refine (HO.out _ (by first | exact Below.refl _ _ | (go_grown; done))).mono ?_; rintro e w1 ⟨⟨g, cap, c, a, rfl, HC⟩, hb⟩
  have hh0 : w1.heap[w.heap.size]? = some (.cells #[.int .u8 k1, .string nm1, .string tx1, .int .i64 n1, .int .i64 m1] 26 (0, 0)) := (hb.block _ (by first | omega | (simp; done) | (simp; omega))).trans (heap_new _ _ _ (by first | rfl | simp))
  have hbw1 : Below w.heap.size w w1 := (show Below w.heap.size w _ by first | exact Below.refl _ _ | (go_grown; done)).trans (hb.mono (by first | omega | (simp; done) | (simp; omega)))
  clear hb
  have HH0_1 := Lib.hid hh0
  have lt0 := heap_lt hh0
  have c0_0 : w1.cell? ⟨w.heap.size, 0, none⟩ = some (.int .u8 k1) := by rw [Lib.cell_of_heap hh0]; rfl
  have c0_1 : w1.cell? ⟨w.heap.size, 1, none⟩ = some (.string nm1) := by rw [Lib.cell_of_heap hh0]; rfl
  have c0_2 : w1.cell? ⟨w.heap.size, 2, none⟩ = some (.string tx1) := by rw [Lib.cell_of_heap hh0]; rfl
  have c0_3 : w1.cell? ⟨w.heap.size, 3, none⟩ = some (.int .i64 n1) := by rw [Lib.cell_of_heap hh0]; rfl
  have c0_4 : w1.cell? ⟨w.heap.size, 4, none⟩ = some (.int .i64 m1) := by rw [Lib.cell_of_heap hh0]; rfl
  clear hh0
  have sz1 := hbw1.size
  have HW1 := Lib.hid hbw1
  have hne := True.intro
  have hst0 := (fun W b x hc hz => st_one Tryz.prog (.func (.func g) #[] cap) rfl W b x hc hz)
  have hst1 := (fun W b x hc hz => st_one Tryz.prog (c) HC.out.1 W b x hc hz)
  have hst2 := (fun W b x hc hz => st_one Tryz.prog (a) HC.out.2 W b x hc hz)
  go_wp2_with fail
  refine (asked_no (.func (.func g) #[] cap) c a false _ _ _ _).mono ?_; rintro e w2 ⟨rfl, hb⟩
  have hv0 := heap_old (o' := (.cells #[.int .u8 k1, .string nm1, .string tx1, .int .i64 n1, .int .i64 m1] 26 (0, 0))) (heap_old (o' := (.cells #[.func (.func g) #[] cap, c, a, .bool false] 42 (0, 0))) (HH0_1.out))
  have hh0 : w2.heap[w.heap.size]? = some (.cells #[.int .u8 k1, .string nm1, .string tx1, .int .i64 n1, .int .i64 m1] 26 (0, 0)) := (hb.block _ (heap_lt hv0)).trans hv0
  clear hv0
  have hh1 : w2.heap[w1.heap.size]? = some (.cells #[.func (.func g) #[] cap, c, a, .bool false] 42 (0, 0)) := (hb.block _ (by first | omega | (simp; done) | (simp; omega))).trans (heap_old (o' := (.cells #[.int .u8 k1, .string nm1, .string tx1, .int .i64 n1, .int .i64 m1] 26 (0, 0))) (heap_new _ _ _ (by first | rfl | simp)))
  have hh2 : w2.heap[w1.heap.size + 1]? = some (.cells #[.int .u8 k1, .string nm1, .string tx1, .int .i64 n1, .int .i64 m1] 26 (0, 0)) := (hb.block _ (by first | omega | (simp; done) | (simp; omega))).trans (heap_new _ _ _ (by first | rfl | simp))
  have hbw2 : Below w.heap.size w w2 := (show Below w.heap.size w _ by first | exact HW1.out.trans ⟨rfl, rfl, rfl, Nat.le_refl _, fun _ _ => rfl⟩ | exact HW1.out | (go_grown; done)).trans (hb.mono (by first | omega | (simp; done) | (simp; omega)))
  clear hb lt0 c0_0 c0_1 c0_2 c0_3 c0_4 hbw1
  have HH0_2 := Lib.hid hh0
  have lt0 := heap_lt hh0
  have c0_0 : w2.cell? ⟨w.heap.size, 0, none⟩ = some (.int .u8 k1) := by rw [Lib.cell_of_heap hh0]; rfl
  have c0_1 : w2.cell? ⟨w.heap.size, 1, none⟩ = some (.string nm1) := by rw [Lib.cell_of_heap hh0]; rfl
  have c0_2 : w2.cell? ⟨w.heap.size, 2, none⟩ = some (.string tx1) := by rw [Lib.cell_of_heap hh0]; rfl
  have c0_3 : w2.cell? ⟨w.heap.size, 3, none⟩ = some (.int .i64 n1) := by rw [Lib.cell_of_heap hh0]; rfl
  have c0_4 : w2.cell? ⟨w.heap.size, 4, none⟩ = some (.int .i64 m1) := by rw [Lib.cell_of_heap hh0]; rfl
  clear hh0
  have HH1_2 := Lib.hid hh1
  have lt1 := heap_lt hh1
  have c1_0 : w2.cell? ⟨w1.heap.size, 0, none⟩ = some (.func (.func g) #[] cap) := by rw [Lib.cell_of_heap hh1]; rfl
  have c1_1 : w2.cell? ⟨w1.heap.size, 1, none⟩ = some (c) := by rw [Lib.cell_of_heap hh1]; rfl
  have c1_2 : w2.cell? ⟨w1.heap.size, 2, none⟩ = some (a) := by rw [Lib.cell_of_heap hh1]; rfl
  have c1_3 : w2.cell? ⟨w1.heap.size, 3, none⟩ = some (.bool false) := by rw [Lib.cell_of_heap hh1]; rfl
  clear hh1
  have HH2_2 := Lib.hid hh2
  have lt2 := heap_lt hh2
  have c2_0 : w2.cell? ⟨w1.heap.size + 1, 0, none⟩ = some (.int .u8 k1) := by rw [Lib.cell_of_heap hh2]; rfl
  have c2_1 : w2.cell? ⟨w1.heap.size + 1, 1, none⟩ = some (.string nm1) := by rw [Lib.cell_of_heap hh2]; rfl
  have c2_2 : w2.cell? ⟨w1.heap.size + 1, 2, none⟩ = some (.string tx1) := by rw [Lib.cell_of_heap hh2]; rfl
  have c2_3 : w2.cell? ⟨w1.heap.size + 1, 3, none⟩ = some (.int .i64 n1) := by rw [Lib.cell_of_heap hh2]; rfl
  have c2_4 : w2.cell? ⟨w1.heap.size + 1, 4, none⟩ = some (.int .i64 m1) := by rw [Lib.cell_of_heap hh2]; rfl
  clear hh2
  have sz2 := hbw2.size
  have HW2 := Lib.hid hbw2
  clear hst0 hst1 hst2 hne
  go_wp2_with fail
  go_ret2
  exact ⟨rfl, by first | exact HW2.out | (go_grown; done)⟩
set_option maxRecDepth 100000 in
set_option maxHeartbeats 4000000 in
theorem slong_go (k : Int) (k1 : Int) (nm1 tx1 : ByteArray) (n1 m1 : Int) (r0 re : Int) (w : World)
    (HO : Hid (∀ W, Below w.heap.size w W → Calls Tryz.prog 13 #[.int .u8 k] W fun e w' => (∃ (g : Nat) (cap : Array Value) (c a : Value), e = .returned (.tuple #[.agg #[.func (.func g) #[] cap, c, a, .bool true], .int .i64 0]) ∧ Hid (c.oneCell' = true ∧ a.oneCell' = true) ∧ Hid (DoesU w' 21 #[.agg #[.func (.func g) #[] cap, c, a, .bool true], .agg #[.int .u8 k1, .string nm1, .string tx1, .int .i64 n1, .int .i64 m1]] (.tuple #[.agg #[.int .u8 k1, .string nm1, .string tx1, .int .i64 n1, .int .i64 m1], .bool true]))) ∧ Below W.heap.size W w'))
    (HT : Hid (DoesU w 17 #[.string tx1] (.tuple #[.int .i64 r0, .int .i64 re]))) :
    Calls Tryz.prog 10 #[.int .u8 k, .agg #[.int .u8 k1, .string nm1, .string tx1, .int .i64 n1, .int .i64 m1]] w fun e w' => e = .returned (.tuple #[.int .i64 r0, .int .i64 re]) ∧ Below w.heap.size w w' := by
  go_enter Tryz.func10, Tryz.ntmps10
  go_wp2_with fail
  refine (HO.out _ (by first | exact Below.refl _ _ | (go_grown; done))).mono ?_; rintro e w1 ⟨⟨g, cap, c, a, rfl, HC, HQ1⟩, hb⟩
  have hh0 : w1.heap[w.heap.size]? = some (.cells #[.int .u8 k1, .string nm1, .string tx1, .int .i64 n1, .int .i64 m1] 26 (0, 0)) := (hb.block _ (by first | omega | (simp; done) | (simp; omega))).trans (heap_new _ _ _ (by first | rfl | simp))
  have hbw1 : Below w.heap.size w w1 := (show Below w.heap.size w _ by first | exact Below.refl _ _ | (go_grown; done)).trans (hb.mono (by first | omega | (simp; done) | (simp; omega)))
  clear hb
  have HH0_1 := Lib.hid hh0
  have lt0 := heap_lt hh0
  have c0_0 : w1.cell? ⟨w.heap.size, 0, none⟩ = some (.int .u8 k1) := by rw [Lib.cell_of_heap hh0]; rfl
  have c0_1 : w1.cell? ⟨w.heap.size, 1, none⟩ = some (.string nm1) := by rw [Lib.cell_of_heap hh0]; rfl
  have c0_2 : w1.cell? ⟨w.heap.size, 2, none⟩ = some (.string tx1) := by rw [Lib.cell_of_heap hh0]; rfl
  have c0_3 : w1.cell? ⟨w.heap.size, 3, none⟩ = some (.int .i64 n1) := by rw [Lib.cell_of_heap hh0]; rfl
  have c0_4 : w1.cell? ⟨w.heap.size, 4, none⟩ = some (.int .i64 m1) := by rw [Lib.cell_of_heap hh0]; rfl
  clear hh0
  have sz1 := hbw1.size
  have HW1 := Lib.hid hbw1
  have hne := True.intro
  have hst0 := (fun W b x hc hz => st_one Tryz.prog (.func (.func g) #[] cap) rfl W b x hc hz)
  have hst1 := (fun W b x hc hz => st_one Tryz.prog (c) HC.out.1 W b x hc hz)
  have hst2 := (fun W b x hc hz => st_one Tryz.prog (a) HC.out.2 W b x hc hz)
  go_wp2_with fail
  refine (asked_1 g cap c a true k1 nm1 tx1 n1 m1 _ _ (Lib.hid (heap_new _ _ _ (by first | rfl | simp))) (Lib.hid (HQ1.out.below (by first | exact Below.refl _ _ | (go_grown; done))))).mono ?_; rintro e w2 ⟨rfl, hb⟩
  have hv0 := heap_old (o' := (.cells #[.int .u8 k1, .string nm1, .string tx1, .int .i64 n1, .int .i64 m1] 26 (0, 0))) (heap_old (o' := (.cells #[.func (.func g) #[] cap, c, a, .bool true] 42 (0, 0))) (HH0_1.out))
  have hh0 : w2.heap[w.heap.size]? = some (.cells #[.int .u8 k1, .string nm1, .string tx1, .int .i64 n1, .int .i64 m1] 26 (0, 0)) := (hb.block _ (heap_lt hv0)).trans hv0
  clear hv0
  have hh1 : w2.heap[w1.heap.size]? = some (.cells #[.func (.func g) #[] cap, c, a, .bool true] 42 (0, 0)) := (hb.block _ (by first | omega | (simp; done) | (simp; omega))).trans (heap_old (o' := (.cells #[.int .u8 k1, .string nm1, .string tx1, .int .i64 n1, .int .i64 m1] 26 (0, 0))) (heap_new _ _ _ (by first | rfl | simp)))
  have hh2 : w2.heap[w1.heap.size + 1]? = some (.cells #[.int .u8 k1, .string nm1, .string tx1, .int .i64 n1, .int .i64 m1] 26 (0, 0)) := (hb.block _ (by first | omega | (simp; done) | (simp; omega))).trans (heap_new _ _ _ (by first | rfl | simp))
  have hbw2 : Below w.heap.size w w2 := (show Below w.heap.size w _ by first | exact HW1.out.trans ⟨rfl, rfl, rfl, Nat.le_refl _, fun _ _ => rfl⟩ | exact HW1.out | (go_grown; done)).trans (hb.mono (by first | omega | (simp; done) | (simp; omega)))
  clear hb lt0 c0_0 c0_1 c0_2 c0_3 c0_4 hbw1
  have HH0_2 := Lib.hid hh0
  have lt0 := heap_lt hh0
  have c0_0 : w2.cell? ⟨w.heap.size, 0, none⟩ = some (.int .u8 k1) := by rw [Lib.cell_of_heap hh0]; rfl
  have c0_1 : w2.cell? ⟨w.heap.size, 1, none⟩ = some (.string nm1) := by rw [Lib.cell_of_heap hh0]; rfl
  have c0_2 : w2.cell? ⟨w.heap.size, 2, none⟩ = some (.string tx1) := by rw [Lib.cell_of_heap hh0]; rfl
  have c0_3 : w2.cell? ⟨w.heap.size, 3, none⟩ = some (.int .i64 n1) := by rw [Lib.cell_of_heap hh0]; rfl
  have c0_4 : w2.cell? ⟨w.heap.size, 4, none⟩ = some (.int .i64 m1) := by rw [Lib.cell_of_heap hh0]; rfl
  clear hh0
  have HH1_2 := Lib.hid hh1
  have lt1 := heap_lt hh1
  have c1_0 : w2.cell? ⟨w1.heap.size, 0, none⟩ = some (.func (.func g) #[] cap) := by rw [Lib.cell_of_heap hh1]; rfl
  have c1_1 : w2.cell? ⟨w1.heap.size, 1, none⟩ = some (c) := by rw [Lib.cell_of_heap hh1]; rfl
  have c1_2 : w2.cell? ⟨w1.heap.size, 2, none⟩ = some (a) := by rw [Lib.cell_of_heap hh1]; rfl
  have c1_3 : w2.cell? ⟨w1.heap.size, 3, none⟩ = some (.bool true) := by rw [Lib.cell_of_heap hh1]; rfl
  clear hh1
  have HH2_2 := Lib.hid hh2
  have lt2 := heap_lt hh2
  have c2_0 : w2.cell? ⟨w1.heap.size + 1, 0, none⟩ = some (.int .u8 k1) := by rw [Lib.cell_of_heap hh2]; rfl
  have c2_1 : w2.cell? ⟨w1.heap.size + 1, 1, none⟩ = some (.string nm1) := by rw [Lib.cell_of_heap hh2]; rfl
  have c2_2 : w2.cell? ⟨w1.heap.size + 1, 2, none⟩ = some (.string tx1) := by rw [Lib.cell_of_heap hh2]; rfl
  have c2_3 : w2.cell? ⟨w1.heap.size + 1, 3, none⟩ = some (.int .i64 n1) := by rw [Lib.cell_of_heap hh2]; rfl
  have c2_4 : w2.cell? ⟨w1.heap.size + 1, 4, none⟩ = some (.int .i64 m1) := by rw [Lib.cell_of_heap hh2]; rfl
  clear hh2
  have sz2 := hbw2.size
  have HW2 := Lib.hid hbw2
  clear hst0 hst1 hst2 hne
  go_wp2_with fail
  refine (HT.out _ (by first | exact HW2.out | exact HW2.out.trans ⟨rfl, rfl, rfl, Nat.le_refl _, fun _ _ => rfl⟩ | (go_grown; done))).mono ?_; rintro e w3 ⟨rfl, hb⟩
  have hv0 := HH0_2.out
  have hh0 : w3.heap[w.heap.size]? = some (.cells #[.int .u8 k1, .string nm1, .string tx1, .int .i64 n1, .int .i64 m1] 26 (0, 0)) := (hb.block _ (heap_lt hv0)).trans hv0
  clear hv0
  have hv1 := HH1_2.out
  have hh1 : w3.heap[w1.heap.size]? = some (.cells #[.func (.func g) #[] cap, c, a, .bool true] 42 (0, 0)) := (hb.block _ (heap_lt hv1)).trans hv1
  clear hv1
  have hv2 := HH2_2.out
  have hh2 : w3.heap[w1.heap.size + 1]? = some (.cells #[.int .u8 k1, .string nm1, .string tx1, .int .i64 n1, .int .i64 m1] 26 (0, 0)) := (hb.block _ (heap_lt hv2)).trans hv2
  clear hv2
  have hbw3 : Below w.heap.size w w3 := (show Below w.heap.size w _ by first | exact HW2.out.trans ⟨rfl, rfl, rfl, Nat.le_refl _, fun _ _ => rfl⟩ | exact HW2.out | (go_grown; done)).trans (hb.mono (by first | omega | (simp; done) | (simp; omega)))
  clear hb lt0 c0_0 c0_1 c0_2 c0_3 c0_4 lt1 c1_0 c1_1 c1_2 c1_3 lt2 c2_0 c2_1 c2_2 c2_3 c2_4 hbw2
  have HH0_3 := Lib.hid hh0
  have lt0 := heap_lt hh0
  have c0_0 : w3.cell? ⟨w.heap.size, 0, none⟩ = some (.int .u8 k1) := by rw [Lib.cell_of_heap hh0]; rfl
  have c0_1 : w3.cell? ⟨w.heap.size, 1, none⟩ = some (.string nm1) := by rw [Lib.cell_of_heap hh0]; rfl
  have c0_2 : w3.cell? ⟨w.heap.size, 2, none⟩ = some (.string tx1) := by rw [Lib.cell_of_heap hh0]; rfl
  have c0_3 : w3.cell? ⟨w.heap.size, 3, none⟩ = some (.int .i64 n1) := by rw [Lib.cell_of_heap hh0]; rfl
  have c0_4 : w3.cell? ⟨w.heap.size, 4, none⟩ = some (.int .i64 m1) := by rw [Lib.cell_of_heap hh0]; rfl
  clear hh0
  have HH1_3 := Lib.hid hh1
  have lt1 := heap_lt hh1
  have c1_0 : w3.cell? ⟨w1.heap.size, 0, none⟩ = some (.func (.func g) #[] cap) := by rw [Lib.cell_of_heap hh1]; rfl
  have c1_1 : w3.cell? ⟨w1.heap.size, 1, none⟩ = some (c) := by rw [Lib.cell_of_heap hh1]; rfl
  have c1_2 : w3.cell? ⟨w1.heap.size, 2, none⟩ = some (a) := by rw [Lib.cell_of_heap hh1]; rfl
  have c1_3 : w3.cell? ⟨w1.heap.size, 3, none⟩ = some (.bool true) := by rw [Lib.cell_of_heap hh1]; rfl
  clear hh1
  have HH2_3 := Lib.hid hh2
  have lt2 := heap_lt hh2
  have c2_0 : w3.cell? ⟨w1.heap.size + 1, 0, none⟩ = some (.int .u8 k1) := by rw [Lib.cell_of_heap hh2]; rfl
  have c2_1 : w3.cell? ⟨w1.heap.size + 1, 1, none⟩ = some (.string nm1) := by rw [Lib.cell_of_heap hh2]; rfl
  have c2_2 : w3.cell? ⟨w1.heap.size + 1, 2, none⟩ = some (.string tx1) := by rw [Lib.cell_of_heap hh2]; rfl
  have c2_3 : w3.cell? ⟨w1.heap.size + 1, 3, none⟩ = some (.int .i64 n1) := by rw [Lib.cell_of_heap hh2]; rfl
  have c2_4 : w3.cell? ⟨w1.heap.size + 1, 4, none⟩ = some (.int .i64 m1) := by rw [Lib.cell_of_heap hh2]; rfl
  clear hh2
  have sz3 := hbw3.size
  have HW3 := Lib.hid hbw3
  go_wp2_with fail
  go_ret2
  exact ⟨rfl, by first | exact HW3.out | (go_grown; done)⟩
end Go.Proofs.YtpkkejcndmcbiaaGreatDoor
