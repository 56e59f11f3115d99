/- scalar's Read, Compare, Add, Long: over contracts. -/
import Derived.Test.YtpkkejcndmcbiaaGreatDoorIh
set_option linter.unusedSimpArgs false
set_option linter.unusedVariables false
namespace Go.Proofs.YtpkkejcndmcbiaaGreatDoor
open Go.RowKit Go.Shelf
theorem pset {b i : Nat} {W : World} {A A' : Array Value} {T : TypeId} (h : W.heap[b]? = some (.cells A T (0, 0))) (v : Value) (hA : A.setIfInBounds i v = A') : (W.setCell ⟨b, i, none⟩ v).heap[b]? = some (.cells A' T (0, 0)) := on_pset h v hA
theorem pother {b b' i : Nat} {W : World} {o : Obj} (h : W.heap[b]? = some o) (v : Value) (hne : b ≠ b') : (W.setCell ⟨b', i, none⟩ v).heap[b]? = some o := by
  rw [Below.heap_setCell _ _ _ _ hne]; exact h
set_option maxRecDepth 100000 in
set_option maxHeartbeats 4000000 in
theorem sread_go (k : Int) (ck : Int) (cn ct : ByteArray) (ci cm : Int) (rk : Int) (rn rt : ByteArray) (ri rm : Int) (w : World)
    (HO : Hid (∀ W, Below w.heap.size w W → Calls Tryz.prog 13 #[.int .u8 k] W fun e w' => (∃ g cap c a l, e = .returned (.tuple #[.agg #[.func (.func g) #[] cap, c, a, .bool l], .int .i64 0]) ∧ Hid (c.oneCell' = true ∧ a.oneCell' = true) ∧ Hid (DoesU w' 21 #[.agg #[.func (.func g) #[] cap, c, a, .bool l], .agg #[.int .u8 ck, .string cn, .string ct, .int .i64 ci, .int .i64 cm]] (.tuple #[.agg #[.int .u8 rk, .string rn, .string rt, .int .i64 ri, .int .i64 rm], .bool true]))) ∧ Below W.heap.size W w')) :
    Calls Tryz.prog 19 #[.int .u8 k, .agg #[.int .u8 ck, .string cn, .string ct, .int .i64 ci, .int .i64 cm]] w fun e w' => e = .returned (.tuple #[.agg #[.int .u8 rk, .string rn, .string rt, .int .i64 ri, .int .i64 rm], .int .i64 0]) ∧ Below w.heap.size w w' := by
  go_enter Tryz.func19, Tryz.ntmps19
  go_wp2_with fail
  refine (HO.out _ (by first | exact Below.refl _ _ | (go_grown; done))).mono ?_; rintro e w1 ⟨⟨g, cap, c, a, l, rfl, HC, HQ⟩, hb⟩
  have hh0 : w1.heap[w.heap.size]? = some (.cells #[.int .u8 ck, .string cn, .string ct, .int .i64 ci, .int .i64 cm] 26 (0, 0)) := (hb.block _ (by first | omega | (simp; done) | (simp; omega))).trans (heap_old (o' := (.cells #[.int .u8 0, .string ⟨#[]⟩, .string ⟨#[]⟩, .int .i64 0, .int .i64 0] 26 (0, 0))) (heap_new _ _ _ (by first | rfl | simp)))
  have hh1 : w1.heap[w.heap.size + 1]? = some (.cells #[.int .u8 0, .string ⟨#[]⟩, .string ⟨#[]⟩, .int .i64 0, .int .i64 0] 26 (0, 0)) := (hb.block _ (by first | omega | (simp; done) | (simp; omega))).trans (heap_new _ _ _ (by first | rfl | simp))
  have hbw1 : Below w.heap.size w w1 := (show Below w.heap.size w _ by first | exact Below.refl _ _ | (go_grown; done)).trans (hb.mono (by first | omega | (simp; done) | (simp; omega)))
  clear hb
  have HH0_1 := Lib.hid hh0
  have lt0 := heap_lt hh0
  have c0_0 : w1.cell? ⟨w.heap.size, 0, none⟩ = some (.int .u8 ck) := by rw [Lib.cell_of_heap hh0]; rfl
  have f0_0 : w1.frozen? ⟨w.heap.size, 0, none⟩ = false := Lib.frozen_of_heap hh0 0
  have c0_1 : w1.cell? ⟨w.heap.size, 1, none⟩ = some (.string cn) := by rw [Lib.cell_of_heap hh0]; rfl
  have f0_1 : w1.frozen? ⟨w.heap.size, 1, none⟩ = false := Lib.frozen_of_heap hh0 1
  have c0_2 : w1.cell? ⟨w.heap.size, 2, none⟩ = some (.string ct) := by rw [Lib.cell_of_heap hh0]; rfl
  have f0_2 : w1.frozen? ⟨w.heap.size, 2, none⟩ = false := Lib.frozen_of_heap hh0 2
  have c0_3 : w1.cell? ⟨w.heap.size, 3, none⟩ = some (.int .i64 ci) := by rw [Lib.cell_of_heap hh0]; rfl
  have f0_3 : w1.frozen? ⟨w.heap.size, 3, none⟩ = false := Lib.frozen_of_heap hh0 3
  have c0_4 : w1.cell? ⟨w.heap.size, 4, none⟩ = some (.int .i64 cm) := by rw [Lib.cell_of_heap hh0]; rfl
  have f0_4 : w1.frozen? ⟨w.heap.size, 4, none⟩ = false := Lib.frozen_of_heap hh0 4
  clear hh0
  have HH1_1 := Lib.hid hh1
  have lt1 := heap_lt hh1
  have c1_0 : w1.cell? ⟨w.heap.size + 1, 0, none⟩ = some (.int .u8 0) := by rw [Lib.cell_of_heap hh1]; rfl
  have f1_0 : w1.frozen? ⟨w.heap.size + 1, 0, none⟩ = false := Lib.frozen_of_heap hh1 0
  have c1_1 : w1.cell? ⟨w.heap.size + 1, 1, none⟩ = some (.string ⟨#[]⟩) := by rw [Lib.cell_of_heap hh1]; rfl
  have f1_1 : w1.frozen? ⟨w.heap.size + 1, 1, none⟩ = false := Lib.frozen_of_heap hh1 1
  have c1_2 : w1.cell? ⟨w.heap.size + 1, 2, none⟩ = some (.string ⟨#[]⟩) := by rw [Lib.cell_of_heap hh1]; rfl
  have f1_2 : w1.frozen? ⟨w.heap.size + 1, 2, none⟩ = false := Lib.frozen_of_heap hh1 2
  have c1_3 : w1.cell? ⟨w.heap.size + 1, 3, none⟩ = some (.int .i64 0) := by rw [Lib.cell_of_heap hh1]; rfl
  have f1_3 : w1.frozen? ⟨w.heap.size + 1, 3, none⟩ = false := Lib.frozen_of_heap hh1 3
  have c1_4 : w1.cell? ⟨w.heap.size + 1, 4, none⟩ = some (.int .i64 0) := by rw [Lib.cell_of_heap hh1]; rfl
  have f1_4 : w1.frozen? ⟨w.heap.size + 1, 4, none⟩ = false := Lib.frozen_of_heap hh1 4
  clear hh1
  have sz1 := hbw1.size
  have HW1 := Lib.hid hbw1
  have hsn := fun W a x hc hz => st_one Tryz.prog .nilFunc rfl W a x hc hz
  have hsf := fun W b x hc hz => st_one Tryz.prog (.func (.func g) #[] cap) rfl W b x hc hz
  have hsc := fun W b x hc hz => st_one Tryz.prog c HC.out.1 W b x hc hz
  have hsa := fun W b x hc hz => st_one Tryz.prog a HC.out.2 W b x hc hz
  go_wp2_with fail
  refine (HQ.out _ (by first | exact Below.refl _ _ | exact hq1 | (go_grown; done))).mono ?_; rintro e w2 ⟨rfl, hb⟩
  have hv0 := heap_old (o' := (.cells #[.func (.func g) #[] cap, c, a, .bool l] 42 (0, 0))) (HH0_1.out)
  have hh0 : w2.heap[w.heap.size]? = some (.cells #[.int .u8 ck, .string cn, .string ct, .int .i64 ci, .int .i64 cm] 26 (0, 0)) := (hb.block _ (heap_lt hv0)).trans hv0
  clear hv0
  have hv1 := heap_old (o' := (.cells #[.func (.func g) #[] cap, c, a, .bool l] 42 (0, 0))) (HH1_1.out)
  have hh1 : w2.heap[w.heap.size + 1]? = some (.cells #[.int .u8 0, .string ⟨#[]⟩, .string ⟨#[]⟩, .int .i64 0, .int .i64 0] 26 (0, 0)) := (hb.block _ (heap_lt hv1)).trans hv1
  clear hv1
  have hh2 : w2.heap[w1.heap.size]? = some (.cells #[.func (.func g) #[] cap, c, a, .bool l] 42 (0, 0)) := (hb.block _ (by first | omega | (simp; done) | (simp; omega))).trans (heap_new _ _ _ (by first | rfl | simp))
  have hbw2 : Below w.heap.size w w2 := (show Below w.heap.size w _ by first | exact HW1.out.trans ⟨rfl, rfl, rfl, Nat.le_refl _, fun _ _ => rfl⟩ | exact HW1.out | (go_grown; done)).trans (hb.mono (by first | omega | (simp; done) | (simp; omega)))
  clear hb lt0 c0_0 f0_0 c0_1 f0_1 c0_2 f0_2 c0_3 f0_3 c0_4 f0_4 lt1 c1_0 f1_0 c1_1 f1_1 c1_2 f1_2 c1_3 f1_3 c1_4 f1_4 hbw1
  have HH0_2 := Lib.hid hh0
  have lt0 := heap_lt hh0
  have c0_0 : w2.cell? ⟨w.heap.size, 0, none⟩ = some (.int .u8 ck) := by rw [Lib.cell_of_heap hh0]; rfl
  have f0_0 : w2.frozen? ⟨w.heap.size, 0, none⟩ = false := Lib.frozen_of_heap hh0 0
  have c0_1 : w2.cell? ⟨w.heap.size, 1, none⟩ = some (.string cn) := by rw [Lib.cell_of_heap hh0]; rfl
  have f0_1 : w2.frozen? ⟨w.heap.size, 1, none⟩ = false := Lib.frozen_of_heap hh0 1
  have c0_2 : w2.cell? ⟨w.heap.size, 2, none⟩ = some (.string ct) := by rw [Lib.cell_of_heap hh0]; rfl
  have f0_2 : w2.frozen? ⟨w.heap.size, 2, none⟩ = false := Lib.frozen_of_heap hh0 2
  have c0_3 : w2.cell? ⟨w.heap.size, 3, none⟩ = some (.int .i64 ci) := by rw [Lib.cell_of_heap hh0]; rfl
  have f0_3 : w2.frozen? ⟨w.heap.size, 3, none⟩ = false := Lib.frozen_of_heap hh0 3
  have c0_4 : w2.cell? ⟨w.heap.size, 4, none⟩ = some (.int .i64 cm) := by rw [Lib.cell_of_heap hh0]; rfl
  have f0_4 : w2.frozen? ⟨w.heap.size, 4, none⟩ = false := Lib.frozen_of_heap hh0 4
  clear hh0
  have HH1_2 := Lib.hid hh1
  have lt1 := heap_lt hh1
  have c1_0 : w2.cell? ⟨w.heap.size + 1, 0, none⟩ = some (.int .u8 0) := by rw [Lib.cell_of_heap hh1]; rfl
  have f1_0 : w2.frozen? ⟨w.heap.size + 1, 0, none⟩ = false := Lib.frozen_of_heap hh1 0
  have c1_1 : w2.cell? ⟨w.heap.size + 1, 1, none⟩ = some (.string ⟨#[]⟩) := by rw [Lib.cell_of_heap hh1]; rfl
  have f1_1 : w2.frozen? ⟨w.heap.size + 1, 1, none⟩ = false := Lib.frozen_of_heap hh1 1
  have c1_2 : w2.cell? ⟨w.heap.size + 1, 2, none⟩ = some (.string ⟨#[]⟩) := by rw [Lib.cell_of_heap hh1]; rfl
  have f1_2 : w2.frozen? ⟨w.heap.size + 1, 2, none⟩ = false := Lib.frozen_of_heap hh1 2
  have c1_3 : w2.cell? ⟨w.heap.size + 1, 3, none⟩ = some (.int .i64 0) := by rw [Lib.cell_of_heap hh1]; rfl
  have f1_3 : w2.frozen? ⟨w.heap.size + 1, 3, none⟩ = false := Lib.frozen_of_heap hh1 3
  have c1_4 : w2.cell? ⟨w.heap.size + 1, 4, none⟩ = some (.int .i64 0) := by rw [Lib.cell_of_heap hh1]; rfl
  have f1_4 : w2.frozen? ⟨w.heap.size + 1, 4, none⟩ = false := Lib.frozen_of_heap hh1 4
  clear hh1
  have HH2_2 := Lib.hid hh2
  have lt2 := heap_lt hh2
  have c2_0 : w2.cell? ⟨w1.heap.size, 0, none⟩ = some (.func (.func g) #[] cap) := by rw [Lib.cell_of_heap hh2]; rfl
  have c2_1 : w2.cell? ⟨w1.heap.size, 1, none⟩ = some (c) := by rw [Lib.cell_of_heap hh2]; rfl
  have c2_2 : w2.cell? ⟨w1.heap.size, 2, none⟩ = some (a) := by rw [Lib.cell_of_heap hh2]; rfl
  have c2_3 : w2.cell? ⟨w1.heap.size, 3, none⟩ = some (.bool l) := by rw [Lib.cell_of_heap hh2]; rfl
  clear hh2
  have sz2 := hbw2.size
  have HW2 := Lib.hid hbw2
  clear hsn hsf hsc hsa
  go_upto_region 5 with fail
  obtain ⟨w3, hw3⟩ : ∃ X : World, X = ((((((((((w2).setCell ⟨w.heap.size, 0, none⟩ (.int .u8 rk))).setCell ⟨w.heap.size, 1, none⟩ (.string rn))).setCell ⟨w.heap.size, 2, none⟩ (.string rt))).setCell ⟨w.heap.size, 3, none⟩ (.int .i64 ri))).setCell ⟨w.heap.size, 4, none⟩ (.int .i64 rm)) := ⟨_, rfl⟩
  rw [← hw3]
  have hh0 : w3.heap[w.heap.size]? = some (.cells #[.int .u8 rk, .string rn, .string rt, .int .i64 ri, .int .i64 rm] 26 (0, 0)) := by rw [hw3]; exact pset (i := 4) (pset (i := 3) (pset (i := 2) (pset (i := 1) (pset (i := 0) (HH0_2.out) (.int .u8 rk) rfl) (.string rn) rfl) (.string rt) rfl) (.int .i64 ri) rfl) (.int .i64 rm) rfl
  have hh1 : w3.heap[w.heap.size + 1]? = some (.cells #[.int .u8 0, .string ⟨#[]⟩, .string ⟨#[]⟩, .int .i64 0, .int .i64 0] 26 (0, 0)) := by rw [hw3]; exact pother (b' := w.heap.size) (i := 4) (pother (b' := w.heap.size) (i := 3) (pother (b' := w.heap.size) (i := 2) (pother (b' := w.heap.size) (i := 1) (pother (b' := w.heap.size) (i := 0) (HH1_2.out) (.int .u8 rk) (by omega)) (.string rn) (by omega)) (.string rt) (by omega)) (.int .i64 ri) (by omega)) (.int .i64 rm) (by omega)
  have hbw3 : Below w.heap.size w w3 := by rw [hw3]; exact ((((((((((HW2.out).setCell (p := ⟨w.heap.size, 0, none⟩) (by first | exact Nat.le_refl _ | omega | (dsimp only; omega)) _)).setCell (p := ⟨w.heap.size, 1, none⟩) (by first | exact Nat.le_refl _ | omega | (dsimp only; omega)) _)).setCell (p := ⟨w.heap.size, 2, none⟩) (by first | exact Nat.le_refl _ | omega | (dsimp only; omega)) _)).setCell (p := ⟨w.heap.size, 3, none⟩) (by first | exact Nat.le_refl _ | omega | (dsimp only; omega)) _)).setCell (p := ⟨w.heap.size, 4, none⟩) (by first | exact Nat.le_refl _ | omega | (dsimp only; omega)) _)
  clear hw3 lt0 c0_0 f0_0 c0_1 f0_1 c0_2 f0_2 c0_3 f0_3 c0_4 f0_4 lt1 c1_0 f1_0 c1_1 f1_1 c1_2 f1_2 c1_3 f1_3 c1_4 f1_4 lt2 c2_0 c2_1 c2_2 c2_3 hbw2
  have HH0_3 := Lib.hid hh0
  have lt0 := heap_lt hh0
  have c0_0 : w3.cell? ⟨w.heap.size, 0, none⟩ = some (.int .u8 rk) := by rw [Lib.cell_of_heap hh0]; rfl
  have f0_0 : w3.frozen? ⟨w.heap.size, 0, none⟩ = false := Lib.frozen_of_heap hh0 0
  have c0_1 : w3.cell? ⟨w.heap.size, 1, none⟩ = some (.string rn) := by rw [Lib.cell_of_heap hh0]; rfl
  have f0_1 : w3.frozen? ⟨w.heap.size, 1, none⟩ = false := Lib.frozen_of_heap hh0 1
  have c0_2 : w3.cell? ⟨w.heap.size, 2, none⟩ = some (.string rt) := by rw [Lib.cell_of_heap hh0]; rfl
  have f0_2 : w3.frozen? ⟨w.heap.size, 2, none⟩ = false := Lib.frozen_of_heap hh0 2
  have c0_3 : w3.cell? ⟨w.heap.size, 3, none⟩ = some (.int .i64 ri) := by rw [Lib.cell_of_heap hh0]; rfl
  have f0_3 : w3.frozen? ⟨w.heap.size, 3, none⟩ = false := Lib.frozen_of_heap hh0 3
  have c0_4 : w3.cell? ⟨w.heap.size, 4, none⟩ = some (.int .i64 rm) := by rw [Lib.cell_of_heap hh0]; rfl
  have f0_4 : w3.frozen? ⟨w.heap.size, 4, none⟩ = false := Lib.frozen_of_heap hh0 4
  clear hh0
  have HH1_3 := Lib.hid hh1
  have lt1 := heap_lt hh1
  have c1_0 : w3.cell? ⟨w.heap.size + 1, 0, none⟩ = some (.int .u8 0) := by rw [Lib.cell_of_heap hh1]; rfl
  have f1_0 : w3.frozen? ⟨w.heap.size + 1, 0, none⟩ = false := Lib.frozen_of_heap hh1 0
  have c1_1 : w3.cell? ⟨w.heap.size + 1, 1, none⟩ = some (.string ⟨#[]⟩) := by rw [Lib.cell_of_heap hh1]; rfl
  have f1_1 : w3.frozen? ⟨w.heap.size + 1, 1, none⟩ = false := Lib.frozen_of_heap hh1 1
  have c1_2 : w3.cell? ⟨w.heap.size + 1, 2, none⟩ = some (.string ⟨#[]⟩) := by rw [Lib.cell_of_heap hh1]; rfl
  have f1_2 : w3.frozen? ⟨w.heap.size + 1, 2, none⟩ = false := Lib.frozen_of_heap hh1 2
  have c1_3 : w3.cell? ⟨w.heap.size + 1, 3, none⟩ = some (.int .i64 0) := by rw [Lib.cell_of_heap hh1]; rfl
  have f1_3 : w3.frozen? ⟨w.heap.size + 1, 3, none⟩ = false := Lib.frozen_of_heap hh1 3
  have c1_4 : w3.cell? ⟨w.heap.size + 1, 4, none⟩ = some (.int .i64 0) := by rw [Lib.cell_of_heap hh1]; rfl
  have f1_4 : w3.frozen? ⟨w.heap.size + 1, 4, none⟩ = false := Lib.frozen_of_heap hh1 4
  clear hh1
  have sz3 := hbw3.size
  have HW3 := Lib.hid hbw3
  go_wp2_with fail
  refine bodyPost_ret (v := .tuple #[.agg #[.int .u8 rk, .string rn, .string rt, .int .i64 ri, .int .i64 rm], .int .i64 0]) (by simp [results, Tryz.results19, go_sem, c1_0, f1_0, c1_1, f1_1, c1_2, f1_2, c1_3, f1_3, c1_4, f1_4]; try rfl) rfl ?_
  refine ⟨rfl, ?_⟩
  repeat' (first | with_reducible exact HW3.out | with_reducible refine Below.setCell ?_ ?_ _ | with_reducible refine Below.alloc ?_ ?_ _)
  all_goals (first | exact Nat.le_refl _ | (dsimp only; omega) | omega | (simp; done) | (simp; omega))
set_option maxRecDepth 100000 in
set_option maxHeartbeats 4000000 in
theorem sread_no (k : Int) (ck : Int) (cn ct : ByteArray) (ci cm : Int) (rk : Int) (rn rt : ByteArray) (ri rm : Int) (w : World)
    (HO : Hid (∀ W, Below w.heap.size w W → Calls Tryz.prog 13 #[.int .u8 k] W fun e w' => (∃ g cap c a l, e = .returned (.tuple #[.agg #[.func (.func g) #[] cap, c, a, .bool l], .int .i64 0]) ∧ Hid (c.oneCell' = true ∧ a.oneCell' = true) ∧ Hid (DoesU w' 21 #[.agg #[.func (.func g) #[] cap, c, a, .bool l], .agg #[.int .u8 ck, .string cn, .string ct, .int .i64 ci, .int .i64 cm]] (.tuple #[.agg #[.int .u8 rk, .string rn, .string rt, .int .i64 ri, .int .i64 rm], .bool false]))) ∧ Below W.heap.size W w')) :
    Calls Tryz.prog 19 #[.int .u8 k, .agg #[.int .u8 ck, .string cn, .string ct, .int .i64 ci, .int .i64 cm]] w fun e w' => e = .returned (.tuple #[.agg #[.int .u8 0, .string ⟨#[]⟩, .string ⟨#[]⟩, .int .i64 0, .int .i64 0], .int .i64 160]) ∧ Below w.heap.size w w' := by
  go_enter Tryz.func19, Tryz.ntmps19
  go_wp2_with fail
  refine (HO.out _ (by first | exact Below.refl _ _ | (go_grown; done))).mono ?_; rintro e w1 ⟨⟨g, cap, c, a, l, rfl, HC, HQ⟩, hb⟩
  have hh0 : w1.heap[w.heap.size]? = some (.cells #[.int .u8 ck, .string cn, .string ct, .int .i64 ci, .int .i64 cm] 26 (0, 0)) := (hb.block _ (by first | omega | (simp; done) | (simp; omega))).trans (heap_old (o' := (.cells #[.int .u8 0, .string ⟨#[]⟩, .string ⟨#[]⟩, .int .i64 0, .int .i64 0] 26 (0, 0))) (heap_new _ _ _ (by first | rfl | simp)))
  have hh1 : w1.heap[w.heap.size + 1]? = some (.cells #[.int .u8 0, .string ⟨#[]⟩, .string ⟨#[]⟩, .int .i64 0, .int .i64 0] 26 (0, 0)) := (hb.block _ (by first | omega | (simp; done) | (simp; omega))).trans (heap_new _ _ _ (by first | rfl | simp))
  have hbw1 : Below w.heap.size w w1 := (show Below w.heap.size w _ by first | exact Below.refl _ _ | (go_grown; done)).trans (hb.mono (by first | omega | (simp; done) | (simp; omega)))
  clear hb
  have HH0_1 := Lib.hid hh0
  have lt0 := heap_lt hh0
  have c0_0 : w1.cell? ⟨w.heap.size, 0, none⟩ = some (.int .u8 ck) := by rw [Lib.cell_of_heap hh0]; rfl
  have f0_0 : w1.frozen? ⟨w.heap.size, 0, none⟩ = false := Lib.frozen_of_heap hh0 0
  have c0_1 : w1.cell? ⟨w.heap.size, 1, none⟩ = some (.string cn) := by rw [Lib.cell_of_heap hh0]; rfl
  have f0_1 : w1.frozen? ⟨w.heap.size, 1, none⟩ = false := Lib.frozen_of_heap hh0 1
  have c0_2 : w1.cell? ⟨w.heap.size, 2, none⟩ = some (.string ct) := by rw [Lib.cell_of_heap hh0]; rfl
  have f0_2 : w1.frozen? ⟨w.heap.size, 2, none⟩ = false := Lib.frozen_of_heap hh0 2
  have c0_3 : w1.cell? ⟨w.heap.size, 3, none⟩ = some (.int .i64 ci) := by rw [Lib.cell_of_heap hh0]; rfl
  have f0_3 : w1.frozen? ⟨w.heap.size, 3, none⟩ = false := Lib.frozen_of_heap hh0 3
  have c0_4 : w1.cell? ⟨w.heap.size, 4, none⟩ = some (.int .i64 cm) := by rw [Lib.cell_of_heap hh0]; rfl
  have f0_4 : w1.frozen? ⟨w.heap.size, 4, none⟩ = false := Lib.frozen_of_heap hh0 4
  clear hh0
  have HH1_1 := Lib.hid hh1
  have lt1 := heap_lt hh1
  have c1_0 : w1.cell? ⟨w.heap.size + 1, 0, none⟩ = some (.int .u8 0) := by rw [Lib.cell_of_heap hh1]; rfl
  have f1_0 : w1.frozen? ⟨w.heap.size + 1, 0, none⟩ = false := Lib.frozen_of_heap hh1 0
  have c1_1 : w1.cell? ⟨w.heap.size + 1, 1, none⟩ = some (.string ⟨#[]⟩) := by rw [Lib.cell_of_heap hh1]; rfl
  have f1_1 : w1.frozen? ⟨w.heap.size + 1, 1, none⟩ = false := Lib.frozen_of_heap hh1 1
  have c1_2 : w1.cell? ⟨w.heap.size + 1, 2, none⟩ = some (.string ⟨#[]⟩) := by rw [Lib.cell_of_heap hh1]; rfl
  have f1_2 : w1.frozen? ⟨w.heap.size + 1, 2, none⟩ = false := Lib.frozen_of_heap hh1 2
  have c1_3 : w1.cell? ⟨w.heap.size + 1, 3, none⟩ = some (.int .i64 0) := by rw [Lib.cell_of_heap hh1]; rfl
  have f1_3 : w1.frozen? ⟨w.heap.size + 1, 3, none⟩ = false := Lib.frozen_of_heap hh1 3
  have c1_4 : w1.cell? ⟨w.heap.size + 1, 4, none⟩ = some (.int .i64 0) := by rw [Lib.cell_of_heap hh1]; rfl
  have f1_4 : w1.frozen? ⟨w.heap.size + 1, 4, none⟩ = false := Lib.frozen_of_heap hh1 4
  clear hh1
  have sz1 := hbw1.size
  have HW1 := Lib.hid hbw1
  have hsn := fun W a x hc hz => st_one Tryz.prog .nilFunc rfl W a x hc hz
  have hsf := fun W b x hc hz => st_one Tryz.prog (.func (.func g) #[] cap) rfl W b x hc hz
  have hsc := fun W b x hc hz => st_one Tryz.prog c HC.out.1 W b x hc hz
  have hsa := fun W b x hc hz => st_one Tryz.prog a HC.out.2 W b x hc hz
  go_wp2_with fail
  refine (HQ.out _ (by first | exact Below.refl _ _ | exact hq1 | (go_grown; done))).mono ?_; rintro e w2 ⟨rfl, hb⟩
  have hv0 := heap_old (o' := (.cells #[.func (.func g) #[] cap, c, a, .bool l] 42 (0, 0))) (HH0_1.out)
  have hh0 : w2.heap[w.heap.size]? = some (.cells #[.int .u8 ck, .string cn, .string ct, .int .i64 ci, .int .i64 cm] 26 (0, 0)) := (hb.block _ (heap_lt hv0)).trans hv0
  clear hv0
  have hv1 := heap_old (o' := (.cells #[.func (.func g) #[] cap, c, a, .bool l] 42 (0, 0))) (HH1_1.out)
  have hh1 : w2.heap[w.heap.size + 1]? = some (.cells #[.int .u8 0, .string ⟨#[]⟩, .string ⟨#[]⟩, .int .i64 0, .int .i64 0] 26 (0, 0)) := (hb.block _ (heap_lt hv1)).trans hv1
  clear hv1
  have hh2 : w2.heap[w1.heap.size]? = some (.cells #[.func (.func g) #[] cap, c, a, .bool l] 42 (0, 0)) := (hb.block _ (by first | omega | (simp; done) | (simp; omega))).trans (heap_new _ _ _ (by first | rfl | simp))
  have hbw2 : Below w.heap.size w w2 := (show Below w.heap.size w _ by first | exact HW1.out.trans ⟨rfl, rfl, rfl, Nat.le_refl _, fun _ _ => rfl⟩ | exact HW1.out | (go_grown; done)).trans (hb.mono (by first | omega | (simp; done) | (simp; omega)))
  clear hb lt0 c0_0 f0_0 c0_1 f0_1 c0_2 f0_2 c0_3 f0_3 c0_4 f0_4 lt1 c1_0 f1_0 c1_1 f1_1 c1_2 f1_2 c1_3 f1_3 c1_4 f1_4 hbw1
  have HH0_2 := Lib.hid hh0
  have lt0 := heap_lt hh0
  have c0_0 : w2.cell? ⟨w.heap.size, 0, none⟩ = some (.int .u8 ck) := by rw [Lib.cell_of_heap hh0]; rfl
  have f0_0 : w2.frozen? ⟨w.heap.size, 0, none⟩ = false := Lib.frozen_of_heap hh0 0
  have c0_1 : w2.cell? ⟨w.heap.size, 1, none⟩ = some (.string cn) := by rw [Lib.cell_of_heap hh0]; rfl
  have f0_1 : w2.frozen? ⟨w.heap.size, 1, none⟩ = false := Lib.frozen_of_heap hh0 1
  have c0_2 : w2.cell? ⟨w.heap.size, 2, none⟩ = some (.string ct) := by rw [Lib.cell_of_heap hh0]; rfl
  have f0_2 : w2.frozen? ⟨w.heap.size, 2, none⟩ = false := Lib.frozen_of_heap hh0 2
  have c0_3 : w2.cell? ⟨w.heap.size, 3, none⟩ = some (.int .i64 ci) := by rw [Lib.cell_of_heap hh0]; rfl
  have f0_3 : w2.frozen? ⟨w.heap.size, 3, none⟩ = false := Lib.frozen_of_heap hh0 3
  have c0_4 : w2.cell? ⟨w.heap.size, 4, none⟩ = some (.int .i64 cm) := by rw [Lib.cell_of_heap hh0]; rfl
  have f0_4 : w2.frozen? ⟨w.heap.size, 4, none⟩ = false := Lib.frozen_of_heap hh0 4
  clear hh0
  have HH1_2 := Lib.hid hh1
  have lt1 := heap_lt hh1
  have c1_0 : w2.cell? ⟨w.heap.size + 1, 0, none⟩ = some (.int .u8 0) := by rw [Lib.cell_of_heap hh1]; rfl
  have f1_0 : w2.frozen? ⟨w.heap.size + 1, 0, none⟩ = false := Lib.frozen_of_heap hh1 0
  have c1_1 : w2.cell? ⟨w.heap.size + 1, 1, none⟩ = some (.string ⟨#[]⟩) := by rw [Lib.cell_of_heap hh1]; rfl
  have f1_1 : w2.frozen? ⟨w.heap.size + 1, 1, none⟩ = false := Lib.frozen_of_heap hh1 1
  have c1_2 : w2.cell? ⟨w.heap.size + 1, 2, none⟩ = some (.string ⟨#[]⟩) := by rw [Lib.cell_of_heap hh1]; rfl
  have f1_2 : w2.frozen? ⟨w.heap.size + 1, 2, none⟩ = false := Lib.frozen_of_heap hh1 2
  have c1_3 : w2.cell? ⟨w.heap.size + 1, 3, none⟩ = some (.int .i64 0) := by rw [Lib.cell_of_heap hh1]; rfl
  have f1_3 : w2.frozen? ⟨w.heap.size + 1, 3, none⟩ = false := Lib.frozen_of_heap hh1 3
  have c1_4 : w2.cell? ⟨w.heap.size + 1, 4, none⟩ = some (.int .i64 0) := by rw [Lib.cell_of_heap hh1]; rfl
  have f1_4 : w2.frozen? ⟨w.heap.size + 1, 4, none⟩ = false := Lib.frozen_of_heap hh1 4
  clear hh1
  have HH2_2 := Lib.hid hh2
  have lt2 := heap_lt hh2
  have c2_0 : w2.cell? ⟨w1.heap.size, 0, none⟩ = some (.func (.func g) #[] cap) := by rw [Lib.cell_of_heap hh2]; rfl
  have c2_1 : w2.cell? ⟨w1.heap.size, 1, none⟩ = some (c) := by rw [Lib.cell_of_heap hh2]; rfl
  have c2_2 : w2.cell? ⟨w1.heap.size, 2, none⟩ = some (a) := by rw [Lib.cell_of_heap hh2]; rfl
  have c2_3 : w2.cell? ⟨w1.heap.size, 3, none⟩ = some (.bool l) := by rw [Lib.cell_of_heap hh2]; rfl
  clear hh2
  have sz2 := hbw2.size
  have HW2 := Lib.hid hbw2
  clear hsn hsf hsc hsa
  go_upto_region 5 with fail
  obtain ⟨w3, hw3⟩ : ∃ X : World, X = ((((((((((w2).setCell ⟨w.heap.size, 0, none⟩ (.int .u8 rk))).setCell ⟨w.heap.size, 1, none⟩ (.string rn))).setCell ⟨w.heap.size, 2, none⟩ (.string rt))).setCell ⟨w.heap.size, 3, none⟩ (.int .i64 ri))).setCell ⟨w.heap.size, 4, none⟩ (.int .i64 rm)) := ⟨_, rfl⟩
  rw [← hw3]
  have hh0 : w3.heap[w.heap.size]? = some (.cells #[.int .u8 rk, .string rn, .string rt, .int .i64 ri, .int .i64 rm] 26 (0, 0)) := by rw [hw3]; exact pset (i := 4) (pset (i := 3) (pset (i := 2) (pset (i := 1) (pset (i := 0) (HH0_2.out) (.int .u8 rk) rfl) (.string rn) rfl) (.string rt) rfl) (.int .i64 ri) rfl) (.int .i64 rm) rfl
  have hh1 : w3.heap[w.heap.size + 1]? = some (.cells #[.int .u8 0, .string ⟨#[]⟩, .string ⟨#[]⟩, .int .i64 0, .int .i64 0] 26 (0, 0)) := by rw [hw3]; exact pother (b' := w.heap.size) (i := 4) (pother (b' := w.heap.size) (i := 3) (pother (b' := w.heap.size) (i := 2) (pother (b' := w.heap.size) (i := 1) (pother (b' := w.heap.size) (i := 0) (HH1_2.out) (.int .u8 rk) (by omega)) (.string rn) (by omega)) (.string rt) (by omega)) (.int .i64 ri) (by omega)) (.int .i64 rm) (by omega)
  have hbw3 : Below w.heap.size w w3 := by rw [hw3]; exact ((((((((((HW2.out).setCell (p := ⟨w.heap.size, 0, none⟩) (by first | exact Nat.le_refl _ | omega | (dsimp only; omega)) _)).setCell (p := ⟨w.heap.size, 1, none⟩) (by first | exact Nat.le_refl _ | omega | (dsimp only; omega)) _)).setCell (p := ⟨w.heap.size, 2, none⟩) (by first | exact Nat.le_refl _ | omega | (dsimp only; omega)) _)).setCell (p := ⟨w.heap.size, 3, none⟩) (by first | exact Nat.le_refl _ | omega | (dsimp only; omega)) _)).setCell (p := ⟨w.heap.size, 4, none⟩) (by first | exact Nat.le_refl _ | omega | (dsimp only; omega)) _)
  clear hw3 lt0 c0_0 f0_0 c0_1 f0_1 c0_2 f0_2 c0_3 f0_3 c0_4 f0_4 lt1 c1_0 f1_0 c1_1 f1_1 c1_2 f1_2 c1_3 f1_3 c1_4 f1_4 lt2 c2_0 c2_1 c2_2 c2_3 hbw2
  have HH0_3 := Lib.hid hh0
  have lt0 := heap_lt hh0
  have c0_0 : w3.cell? ⟨w.heap.size, 0, none⟩ = some (.int .u8 rk) := by rw [Lib.cell_of_heap hh0]; rfl
  have f0_0 : w3.frozen? ⟨w.heap.size, 0, none⟩ = false := Lib.frozen_of_heap hh0 0
  have c0_1 : w3.cell? ⟨w.heap.size, 1, none⟩ = some (.string rn) := by rw [Lib.cell_of_heap hh0]; rfl
  have f0_1 : w3.frozen? ⟨w.heap.size, 1, none⟩ = false := Lib.frozen_of_heap hh0 1
  have c0_2 : w3.cell? ⟨w.heap.size, 2, none⟩ = some (.string rt) := by rw [Lib.cell_of_heap hh0]; rfl
  have f0_2 : w3.frozen? ⟨w.heap.size, 2, none⟩ = false := Lib.frozen_of_heap hh0 2
  have c0_3 : w3.cell? ⟨w.heap.size, 3, none⟩ = some (.int .i64 ri) := by rw [Lib.cell_of_heap hh0]; rfl
  have f0_3 : w3.frozen? ⟨w.heap.size, 3, none⟩ = false := Lib.frozen_of_heap hh0 3
  have c0_4 : w3.cell? ⟨w.heap.size, 4, none⟩ = some (.int .i64 rm) := by rw [Lib.cell_of_heap hh0]; rfl
  have f0_4 : w3.frozen? ⟨w.heap.size, 4, none⟩ = false := Lib.frozen_of_heap hh0 4
  clear hh0
  have HH1_3 := Lib.hid hh1
  have lt1 := heap_lt hh1
  have c1_0 : w3.cell? ⟨w.heap.size + 1, 0, none⟩ = some (.int .u8 0) := by rw [Lib.cell_of_heap hh1]; rfl
  have f1_0 : w3.frozen? ⟨w.heap.size + 1, 0, none⟩ = false := Lib.frozen_of_heap hh1 0
  have c1_1 : w3.cell? ⟨w.heap.size + 1, 1, none⟩ = some (.string ⟨#[]⟩) := by rw [Lib.cell_of_heap hh1]; rfl
  have f1_1 : w3.frozen? ⟨w.heap.size + 1, 1, none⟩ = false := Lib.frozen_of_heap hh1 1
  have c1_2 : w3.cell? ⟨w.heap.size + 1, 2, none⟩ = some (.string ⟨#[]⟩) := by rw [Lib.cell_of_heap hh1]; rfl
  have f1_2 : w3.frozen? ⟨w.heap.size + 1, 2, none⟩ = false := Lib.frozen_of_heap hh1 2
  have c1_3 : w3.cell? ⟨w.heap.size + 1, 3, none⟩ = some (.int .i64 0) := by rw [Lib.cell_of_heap hh1]; rfl
  have f1_3 : w3.frozen? ⟨w.heap.size + 1, 3, none⟩ = false := Lib.frozen_of_heap hh1 3
  have c1_4 : w3.cell? ⟨w.heap.size + 1, 4, none⟩ = some (.int .i64 0) := by rw [Lib.cell_of_heap hh1]; rfl
  have f1_4 : w3.frozen? ⟨w.heap.size + 1, 4, none⟩ = false := Lib.frozen_of_heap hh1 4
  clear hh1
  have sz3 := hbw3.size
  have HW3 := Lib.hid hbw3
  go_wp2_with fail
  refine bodyPost_ret (v := .tuple #[.agg #[.int .u8 0, .string ⟨#[]⟩, .string ⟨#[]⟩, .int .i64 0, .int .i64 0], .int .i64 160]) (by simp [results, Tryz.results19, go_sem, c1_0, f1_0, c1_1, f1_1, c1_2, f1_2, c1_3, f1_3, c1_4, f1_4]; try rfl) rfl ?_
  refine ⟨rfl, ?_⟩
  repeat' (first | with_reducible exact HW3.out | with_reducible refine Below.setCell ?_ ?_ _ | with_reducible refine Below.alloc ?_ ?_ _)
  all_goals (first | exact Nat.le_refl _ | (dsimp only; omega) | omega | (simp; done) | (simp; omega))
set_option maxRecDepth 100000 in
set_option maxHeartbeats 4000000 in
theorem sread_arg (k : Int) (ck : Int) (cn ct : ByteArray) (ci cm : Int) (w : World)
    (HO : Hid (DoesU w 13 #[.int .u8 k] (.tuple #[.agg #[.nilFunc, .nilFunc, .nilFunc, .bool false], .int .i64 2]))) :
    Calls Tryz.prog 19 #[.int .u8 k, .agg #[.int .u8 ck, .string cn, .string ct, .int .i64 ci, .int .i64 cm]] w fun e w' => e = .returned (.tuple #[.agg #[.int .u8 0, .string ⟨#[]⟩, .string ⟨#[]⟩, .int .i64 0, .int .i64 0], .int .i64 2]) ∧ Below w.heap.size w w' := by
  go_enter Tryz.func19, Tryz.ntmps19
  go_wp2_with fail
  refine (HO.out _ (by first | exact Below.refl _ _ | (go_grown; done))).mono ?_; rintro e w1 ⟨rfl, hb⟩
  have hh0 : w1.heap[w.heap.size]? = some (.cells #[.int .u8 ck, .string cn, .string ct, .int .i64 ci, .int .i64 cm] 26 (0, 0)) := (hb.block _ (by first | omega | (simp; done) | (simp; omega))).trans (heap_old (o' := (.cells #[.int .u8 0, .string ⟨#[]⟩, .string ⟨#[]⟩, .int .i64 0, .int .i64 0] 26 (0, 0))) (heap_new _ _ _ (by first | rfl | simp)))
  have hh1 : w1.heap[w.heap.size + 1]? = some (.cells #[.int .u8 0, .string ⟨#[]⟩, .string ⟨#[]⟩, .int .i64 0, .int .i64 0] 26 (0, 0)) := (hb.block _ (by first | omega | (simp; done) | (simp; omega))).trans (heap_new _ _ _ (by first | rfl | simp))
  have hbw1 : Below w.heap.size w w1 := (show Below w.heap.size w _ by first | exact Below.refl _ _ | (go_grown; done)).trans (hb.mono (by first | omega | (simp; done) | (simp; omega)))
  clear hb
  have HH0_1 := Lib.hid hh0
  have lt0 := heap_lt hh0
  have c0_0 : w1.cell? ⟨w.heap.size, 0, none⟩ = some (.int .u8 ck) := by rw [Lib.cell_of_heap hh0]; rfl
  have f0_0 : w1.frozen? ⟨w.heap.size, 0, none⟩ = false := Lib.frozen_of_heap hh0 0
  have c0_1 : w1.cell? ⟨w.heap.size, 1, none⟩ = some (.string cn) := by rw [Lib.cell_of_heap hh0]; rfl
  have f0_1 : w1.frozen? ⟨w.heap.size, 1, none⟩ = false := Lib.frozen_of_heap hh0 1
  have c0_2 : w1.cell? ⟨w.heap.size, 2, none⟩ = some (.string ct) := by rw [Lib.cell_of_heap hh0]; rfl
  have f0_2 : w1.frozen? ⟨w.heap.size, 2, none⟩ = false := Lib.frozen_of_heap hh0 2
  have c0_3 : w1.cell? ⟨w.heap.size, 3, none⟩ = some (.int .i64 ci) := by rw [Lib.cell_of_heap hh0]; rfl
  have f0_3 : w1.frozen? ⟨w.heap.size, 3, none⟩ = false := Lib.frozen_of_heap hh0 3
  have c0_4 : w1.cell? ⟨w.heap.size, 4, none⟩ = some (.int .i64 cm) := by rw [Lib.cell_of_heap hh0]; rfl
  have f0_4 : w1.frozen? ⟨w.heap.size, 4, none⟩ = false := Lib.frozen_of_heap hh0 4
  clear hh0
  have HH1_1 := Lib.hid hh1
  have lt1 := heap_lt hh1
  have c1_0 : w1.cell? ⟨w.heap.size + 1, 0, none⟩ = some (.int .u8 0) := by rw [Lib.cell_of_heap hh1]; rfl
  have f1_0 : w1.frozen? ⟨w.heap.size + 1, 0, none⟩ = false := Lib.frozen_of_heap hh1 0
  have c1_1 : w1.cell? ⟨w.heap.size + 1, 1, none⟩ = some (.string ⟨#[]⟩) := by rw [Lib.cell_of_heap hh1]; rfl
  have f1_1 : w1.frozen? ⟨w.heap.size + 1, 1, none⟩ = false := Lib.frozen_of_heap hh1 1
  have c1_2 : w1.cell? ⟨w.heap.size + 1, 2, none⟩ = some (.string ⟨#[]⟩) := by rw [Lib.cell_of_heap hh1]; rfl
  have f1_2 : w1.frozen? ⟨w.heap.size + 1, 2, none⟩ = false := Lib.frozen_of_heap hh1 2
  have c1_3 : w1.cell? ⟨w.heap.size + 1, 3, none⟩ = some (.int .i64 0) := by rw [Lib.cell_of_heap hh1]; rfl
  have f1_3 : w1.frozen? ⟨w.heap.size + 1, 3, none⟩ = false := Lib.frozen_of_heap hh1 3
  have c1_4 : w1.cell? ⟨w.heap.size + 1, 4, none⟩ = some (.int .i64 0) := by rw [Lib.cell_of_heap hh1]; rfl
  have f1_4 : w1.frozen? ⟨w.heap.size + 1, 4, none⟩ = false := Lib.frozen_of_heap hh1 4
  clear hh1
  have sz1 := hbw1.size
  have HW1 := Lib.hid hbw1
  have hsn := fun W a x hc hz => st_one Tryz.prog .nilFunc rfl W a x hc hz
  go_wp2_with fail
  refine bodyPost_ret (v := .tuple #[.agg #[.int .u8 0, .string ⟨#[]⟩, .string ⟨#[]⟩, .int .i64 0, .int .i64 0], .int .i64 2]) (by simp [results, Tryz.results19, go_sem, lt1, c1_0, f1_0, c1_1, f1_1, c1_2, f1_2, c1_3, f1_3, c1_4, f1_4]; try rfl) rfl ?_
  refine ⟨rfl, ?_⟩
  repeat' (first | with_reducible exact HW1.out | with_reducible refine Below.setCell ?_ ?_ _ | with_reducible refine Below.alloc ?_ ?_ _)
  all_goals (first | exact Nat.le_refl _ | (dsimp only; omega) | omega | (simp; done) | (simp; omega))
end Go.Proofs.YtpkkejcndmcbiaaGreatDoor
