/- The walks through the reference's Order and Compare of Decimals (provostref14). -/
import Derived.Test.YtgljbhbpjobnbaaDoorNh
set_option linter.unusedSimpArgs false
set_option linter.unusedVariables false
namespace Go.Proofs.YtgljbhbpjobnbaaDoor
open Go.RowKit
theorem heap_old {b : Nat} {W : World} {o o' : Obj} (h : W.heap[b]? = some o) : (W.alloc o').heap[b]? = some o := hold h
theorem heap_new (W : World) (o : Obj) (b : Nat) (hb : b = W.heap.size) : (W.alloc o).heap[b]? = some o := hnew W o b hb
theorem heap_lt {b : Nat} {W : World} {o : Obj} (h : W.heap[b]? = some o) : b < W.heap.size := (Array.getElem?_eq_some_iff.1 h).1
/-- A whole row stored: the world behind it, by what is known of it. -/
theorem row_store {P : Program} {ops : Array Oper} {rest : List Oper} {o : Oper} {a : Act} {w : World} {Q : Exit → Act → World → Prop} (hgd : o.guard = none) (ty : TypeId) (x y : Operand) (ho : o.op = .store ty x y)
    (g : Nat) (cells : Array Value) (hx : a.eval x = .pointer (some ⟨g, 0, none⟩)) (hy : a.eval y = .agg cells)
    (t : TypeId) (old : Array Value) (hg : w.heap[g]? = some (.cells old t (0, 0))) (hi : (P.info? ty).map (·.size) = some cells.size)
    (hold : old.size = cells.size) (h1 : cells.all (·.oneCell') = true)
    (h : ∀ W : World, W.heap[g]? = some (.cells cells t (0, 0)) → (∀ k, k ≠ g → W.heap[k]? = w.heap[k]?) → W.heap.size = w.heap.size → (∀ B w0, Below B w0 w → B ≤ g → Below B w0 W) → wpList P ops Q rest (a.put o.dst undef) W) : wpList P ops Q (o :: rest) a w :=
  wpList_store_row hgd ty x y ho g cells hx hy t old hg hi hold h1 (h _ (setRow_heap _ _ _ _ _ _ hg) (fun k hk => setRow_other _ _ _ _ hk) (size_setRow _ _ _) (fun B w0 hb hB => below_setRow hb hB _))
set_option maxRecDepth 100000 in
set_option maxHeartbeats 4000000 in
theorem rord_et (m s n t : Int) (u v : Nat) (w : World) (H1 : Hid (∀ w, Calls Tryd.prog 23 #[.agg #[.int .i64 m, .int .i64 s]] w fun e w' => e = .returned (.tuple #[.agg (rowV u), .bool true]) ∧ Below w.heap.size w w')) (H2 : Hid (∀ w, Calls Tryd.prog 23 #[.agg #[.int .i64 n, .int .i64 t]] w fun e w' => e = .returned (.tuple #[.agg (rowV v), .bool true]) ∧ Below w.heap.size w w'))
    (hq : ∀ w, (binOp .eql 23 (.agg #[.int .i64 m, .int .i64 s]) (.agg #[.int .i64 n, .int .i64 t])).run Tryd.prog w = .ok (.bool true) w) :
    Calls Tryd.prog 29 #[.agg #[.int .i64 m, .int .i64 s], .agg #[.int .i64 n, .int .i64 t]] w fun e w' => e = .returned (.int .i64 0) ∧ Below w.heap.size w w' := by
  go_enter Tryd.func29, Tryd.ntmps29
  go_wp2_with fail
  refine (H1.out _).mono ?_; rintro e w1 ⟨rfl, hb⟩
  have hh0 : w1.heap[w.heap.size]? = some (.cells #[.int .i64 m, .int .i64 s] 23 (0, 0)) := (hb.block _ (by first | omega | (simp; done) | (simp; omega))).trans (heap_old (o' := (.cells #[.int .i64 n, .int .i64 t] 23 (0, 0))) (heap_new _ _ _ (by first | rfl | simp)))
  have hh1 : w1.heap[w.heap.size + 1]? = some (.cells #[.int .i64 n, .int .i64 t] 23 (0, 0)) := (hb.block _ (by first | omega | (simp; done) | (simp; omega))).trans (heap_new _ _ _ (by first | rfl | simp))
  have hbw1 : Below w.heap.size w w1 := (show Below w.heap.size w _ by first | exact Below.refl _ _ | (go_grown; done)).trans (hb.mono (by first | omega | (simp; done) | (simp; omega)))
  clear hb
  have HH0_1 := Lib.hid hh0
  have lt0 := heap_lt hh0
  have c0_0 : w1.cell? ⟨w.heap.size, 0, none⟩ = some (.int .i64 m) := by rw [Lib.cell_of_heap hh0]; rfl
  have c0_1 : w1.cell? ⟨w.heap.size, 1, none⟩ = some (.int .i64 s) := by rw [Lib.cell_of_heap hh0]; rfl
  clear hh0
  have HH1_1 := Lib.hid hh1
  have lt1 := heap_lt hh1
  have c1_0 : w1.cell? ⟨w.heap.size + 1, 0, none⟩ = some (.int .i64 n) := by rw [Lib.cell_of_heap hh1]; rfl
  have c1_1 : w1.cell? ⟨w.heap.size + 1, 1, none⟩ = some (.int .i64 t) := by rw [Lib.cell_of_heap hh1]; rfl
  clear hh1
  have sz1 := hbw1.size
  have HW1 := Lib.hid hbw1
  have HZ2 : Hid ((w1.alloc (.cells #[.int .i64 0, .int .i64 0, .int .i64 0, .int .i64 0, .int .i64 0, .int .i64 0, .int .i64 0, .int .i64 0, .int .i64 0, .int .i64 0, .int .i64 0, .int .i64 0, .int .i64 0, .int .i64 0, .int .i64 0, .int .i64 0, .int .i64 0, .int .i64 0, .int .i64 0, .int .i64 0, .int .i64 0, .int .i64 0, .int .i64 0, .int .i64 0, .int .i64 0, .int .i64 0, .int .i64 0, .int .i64 0, .int .i64 0, .int .i64 0, .int .i64 0, .int .i64 0, .int .i64 0, .int .i64 0, .int .i64 0, .int .i64 0, .int .i64 0, .int .i64 0, .int .i64 0, .int .i64 0] 51)).heap[w1.heap.size]? = some (.cells (rowF (fun _ => 0)) 51 (0, 0))) := Lib.hid (by rw [← rowF_zero]; exact hnew _ _ _ rfl)
  go_wp2_with (first | (refine row_store rfl 51 _ _ rfl w1.heap.size (rowV u) rfl rfl 51 (rowF (fun _ => 0)) HZ2.out (info40V _) (by rw [rowF_size, rowV_size]) (rowV_one _) ?_; intro w2 hnw hoth hsz hbel; have hbw2 : Below w.heap.size w w2 := hbel _ _ ((HW1.out).alloc (by omega) _) (by omega); have hh0 : w2.heap[w.heap.size]? = some (.cells #[.int .i64 m, .int .i64 s] 23 (0, 0)) := (hoth _ (Nat.ne_of_lt (heap_lt HH0_1.out))).trans (hold HH0_1.out); have hh1 : w2.heap[w.heap.size + 1]? = some (.cells #[.int .i64 n, .int .i64 t] 23 (0, 0)) := (hoth _ (Nat.ne_of_lt (heap_lt HH1_1.out))).trans (hold HH1_1.out); have hh2 : w2.heap[w1.heap.size]? = some (.cells (rowV u) 51 (0, 0)) := hnw; clear lt0 c0_0 c0_1 lt1 c1_0 c1_1 hbw1 hnw hoth hsz hbel; have HH0_2 := Lib.hid hh0; have lt0 := heap_lt hh0; have c0_0 : w2.cell? ⟨w.heap.size, 0, none⟩ = some (.int .i64 m) := (by rw [Lib.cell_of_heap hh0]; rfl); have c0_1 : w2.cell? ⟨w.heap.size, 1, none⟩ = some (.int .i64 s) := (by rw [Lib.cell_of_heap hh0]; rfl); clear hh0; have HH1_2 := Lib.hid hh1; have lt1 := heap_lt hh1; have c1_0 : w2.cell? ⟨w.heap.size + 1, 0, none⟩ = some (.int .i64 n) := (by rw [Lib.cell_of_heap hh1]; rfl); have c1_1 : w2.cell? ⟨w.heap.size + 1, 1, none⟩ = some (.int .i64 t) := (by rw [Lib.cell_of_heap hh1]; rfl); clear hh1; have HH2_2 := Lib.hid hh2; have lt2 := heap_lt hh2; clear hh2; have sz2 := hbw2.size; have HW2 := Lib.hid hbw2))
  refine (H2.out _).mono ?_; rintro e w3 ⟨rfl, hb⟩
  have hv0 := HH0_2.out
  have hh0 : w3.heap[w.heap.size]? = some (.cells #[.int .i64 m, .int .i64 s] 23 (0, 0)) := (hb.block _ (heap_lt hv0)).trans hv0
  clear hv0
  have hv1 := HH1_2.out
  have hh1 : w3.heap[w.heap.size + 1]? = some (.cells #[.int .i64 n, .int .i64 t] 23 (0, 0)) := (hb.block _ (heap_lt hv1)).trans hv1
  clear hv1
  have hv2 := HH2_2.out
  have hh2 : w3.heap[w1.heap.size]? = some (.cells (rowV u) 51 (0, 0)) := (hb.block _ (heap_lt hv2)).trans hv2
  clear hv2
  have hbw3 : Below w.heap.size w w3 := (show Below w.heap.size w _ by first | exact HW2.out.trans ⟨rfl, rfl, rfl, Nat.le_refl _, fun _ _ => rfl⟩ | exact HW2.out | (go_grown; done)).trans (hb.mono (by first | omega | (simp; done) | (simp; omega)))
  clear hb lt0 c0_0 c0_1 lt1 c1_0 c1_1 lt2 hbw2
  have HH0_3 := Lib.hid hh0
  have lt0 := heap_lt hh0
  have c0_0 : w3.cell? ⟨w.heap.size, 0, none⟩ = some (.int .i64 m) := by rw [Lib.cell_of_heap hh0]; rfl
  have c0_1 : w3.cell? ⟨w.heap.size, 1, none⟩ = some (.int .i64 s) := by rw [Lib.cell_of_heap hh0]; rfl
  clear hh0
  have HH1_3 := Lib.hid hh1
  have lt1 := heap_lt hh1
  have c1_0 : w3.cell? ⟨w.heap.size + 1, 0, none⟩ = some (.int .i64 n) := by rw [Lib.cell_of_heap hh1]; rfl
  have c1_1 : w3.cell? ⟨w.heap.size + 1, 1, none⟩ = some (.int .i64 t) := by rw [Lib.cell_of_heap hh1]; rfl
  clear hh1
  have HH2_3 := Lib.hid hh2
  have lt2 := heap_lt hh2
  clear hh2
  have sz3 := hbw3.size
  have HW3 := Lib.hid hbw3
  have HZ4 : Hid ((w3.alloc (.cells #[.int .i64 0, .int .i64 0, .int .i64 0, .int .i64 0, .int .i64 0, .int .i64 0, .int .i64 0, .int .i64 0, .int .i64 0, .int .i64 0, .int .i64 0, .int .i64 0, .int .i64 0, .int .i64 0, .int .i64 0, .int .i64 0, .int .i64 0, .int .i64 0, .int .i64 0, .int .i64 0, .int .i64 0, .int .i64 0, .int .i64 0, .int .i64 0, .int .i64 0, .int .i64 0, .int .i64 0, .int .i64 0, .int .i64 0, .int .i64 0, .int .i64 0, .int .i64 0, .int .i64 0, .int .i64 0, .int .i64 0, .int .i64 0, .int .i64 0, .int .i64 0, .int .i64 0, .int .i64 0] 51)).heap[w3.heap.size]? = some (.cells (rowF (fun _ => 0)) 51 (0, 0))) := Lib.hid (by rw [← rowF_zero]; exact hnew _ _ _ rfl)
  go_wp2_with (first | (refine row_store rfl 51 _ _ rfl w3.heap.size (rowV v) rfl rfl 51 (rowF (fun _ => 0)) HZ4.out (info40V _) (by rw [rowF_size, rowV_size]) (rowV_one _) ?_; intro w4 hnw hoth hsz hbel; have hbw4 : Below w.heap.size w w4 := hbel _ _ ((HW3.out).alloc (by omega) _) (by omega); have hh0 : w4.heap[w.heap.size]? = some (.cells #[.int .i64 m, .int .i64 s] 23 (0, 0)) := (hoth _ (Nat.ne_of_lt (heap_lt HH0_3.out))).trans (hold HH0_3.out); have hh1 : w4.heap[w.heap.size + 1]? = some (.cells #[.int .i64 n, .int .i64 t] 23 (0, 0)) := (hoth _ (Nat.ne_of_lt (heap_lt HH1_3.out))).trans (hold HH1_3.out); have hh2 : w4.heap[w1.heap.size]? = some (.cells (rowV u) 51 (0, 0)) := (hoth _ (Nat.ne_of_lt (heap_lt HH2_3.out))).trans (hold HH2_3.out); have hh3 : w4.heap[w3.heap.size]? = some (.cells (rowV v) 51 (0, 0)) := hnw; clear lt0 c0_0 c0_1 lt1 c1_0 c1_1 lt2 hbw3 hnw hoth hsz hbel; have HH0_4 := Lib.hid hh0; have lt0 := heap_lt hh0; have c0_0 : w4.cell? ⟨w.heap.size, 0, none⟩ = some (.int .i64 m) := (by rw [Lib.cell_of_heap hh0]; rfl); have c0_1 : w4.cell? ⟨w.heap.size, 1, none⟩ = some (.int .i64 s) := (by rw [Lib.cell_of_heap hh0]; rfl); clear hh0; have HH1_4 := Lib.hid hh1; have lt1 := heap_lt hh1; have c1_0 : w4.cell? ⟨w.heap.size + 1, 0, none⟩ = some (.int .i64 n) := (by rw [Lib.cell_of_heap hh1]; rfl); have c1_1 : w4.cell? ⟨w.heap.size + 1, 1, none⟩ = some (.int .i64 t) := (by rw [Lib.cell_of_heap hh1]; rfl); clear hh1; have HH2_4 := Lib.hid hh2; have lt2 := heap_lt hh2; clear hh2; have HH3_4 := Lib.hid hh3; have lt3 := heap_lt hh3; clear hh3; have sz4 := hbw4.size; have HW4 := Lib.hid hbw4))
  go_ret
  exact ⟨rfl, by first | exact HW4.out | (go_grown; done)⟩
set_option maxRecDepth 100000 in
set_option maxHeartbeats 4000000 in
theorem rord_tt (m s n t : Int) (u v : Nat) (w : World) (H1 : Hid (∀ w, Calls Tryd.prog 23 #[.agg #[.int .i64 m, .int .i64 s]] w fun e w' => e = .returned (.tuple #[.agg (rowV u), .bool true]) ∧ Below w.heap.size w w')) (H2 : Hid (∀ w, Calls Tryd.prog 23 #[.agg #[.int .i64 n, .int .i64 t]] w fun e w' => e = .returned (.tuple #[.agg (rowV v), .bool true]) ∧ Below w.heap.size w w')) (H3 : Hid (∀ w, Calls Tryd.prog 24 #[.agg (rowV u), .agg (rowV v)] w fun e w' => e = .returned (.bool true) ∧ Below w.heap.size w w'))
    (hq : ∀ w, (binOp .eql 23 (.agg #[.int .i64 m, .int .i64 s]) (.agg #[.int .i64 n, .int .i64 t])).run Tryd.prog w = .ok (.bool false) w) :
    Calls Tryd.prog 29 #[.agg #[.int .i64 m, .int .i64 s], .agg #[.int .i64 n, .int .i64 t]] w fun e w' => e = .returned (.int .i64 1) ∧ Below w.heap.size w w' := by
  go_enter Tryd.func29, Tryd.ntmps29
  go_wp2_with fail
  refine (H1.out _).mono ?_; rintro e w1 ⟨rfl, hb⟩
  have hh0 : w1.heap[w.heap.size]? = some (.cells #[.int .i64 m, .int .i64 s] 23 (0, 0)) := (hb.block _ (by first | omega | (simp; done) | (simp; omega))).trans (heap_old (o' := (.cells #[.int .i64 n, .int .i64 t] 23 (0, 0))) (heap_new _ _ _ (by first | rfl | simp)))
  have hh1 : w1.heap[w.heap.size + 1]? = some (.cells #[.int .i64 n, .int .i64 t] 23 (0, 0)) := (hb.block _ (by first | omega | (simp; done) | (simp; omega))).trans (heap_new _ _ _ (by first | rfl | simp))
  have hbw1 : Below w.heap.size w w1 := (show Below w.heap.size w _ by first | exact Below.refl _ _ | (go_grown; done)).trans (hb.mono (by first | omega | (simp; done) | (simp; omega)))
  clear hb
  have HH0_1 := Lib.hid hh0
  have lt0 := heap_lt hh0
  have c0_0 : w1.cell? ⟨w.heap.size, 0, none⟩ = some (.int .i64 m) := by rw [Lib.cell_of_heap hh0]; rfl
  have c0_1 : w1.cell? ⟨w.heap.size, 1, none⟩ = some (.int .i64 s) := by rw [Lib.cell_of_heap hh0]; rfl
  clear hh0
  have HH1_1 := Lib.hid hh1
  have lt1 := heap_lt hh1
  have c1_0 : w1.cell? ⟨w.heap.size + 1, 0, none⟩ = some (.int .i64 n) := by rw [Lib.cell_of_heap hh1]; rfl
  have c1_1 : w1.cell? ⟨w.heap.size + 1, 1, none⟩ = some (.int .i64 t) := by rw [Lib.cell_of_heap hh1]; rfl
  clear hh1
  have sz1 := hbw1.size
  have HW1 := Lib.hid hbw1
  have HZ2 : Hid ((w1.alloc (.cells #[.int .i64 0, .int .i64 0, .int .i64 0, .int .i64 0, .int .i64 0, .int .i64 0, .int .i64 0, .int .i64 0, .int .i64 0, .int .i64 0, .int .i64 0, .int .i64 0, .int .i64 0, .int .i64 0, .int .i64 0, .int .i64 0, .int .i64 0, .int .i64 0, .int .i64 0, .int .i64 0, .int .i64 0, .int .i64 0, .int .i64 0, .int .i64 0, .int .i64 0, .int .i64 0, .int .i64 0, .int .i64 0, .int .i64 0, .int .i64 0, .int .i64 0, .int .i64 0, .int .i64 0, .int .i64 0, .int .i64 0, .int .i64 0, .int .i64 0, .int .i64 0, .int .i64 0, .int .i64 0] 51)).heap[w1.heap.size]? = some (.cells (rowF (fun _ => 0)) 51 (0, 0))) := Lib.hid (by rw [← rowF_zero]; exact hnew _ _ _ rfl)
  go_wp2_with (first | (refine row_store rfl 51 _ _ rfl w1.heap.size (rowV u) rfl rfl 51 (rowF (fun _ => 0)) HZ2.out (info40V _) (by rw [rowF_size, rowV_size]) (rowV_one _) ?_; intro w2 hnw hoth hsz hbel; have hbw2 : Below w.heap.size w w2 := hbel _ _ ((HW1.out).alloc (by omega) _) (by omega); have hh0 : w2.heap[w.heap.size]? = some (.cells #[.int .i64 m, .int .i64 s] 23 (0, 0)) := (hoth _ (Nat.ne_of_lt (heap_lt HH0_1.out))).trans (hold HH0_1.out); have hh1 : w2.heap[w.heap.size + 1]? = some (.cells #[.int .i64 n, .int .i64 t] 23 (0, 0)) := (hoth _ (Nat.ne_of_lt (heap_lt HH1_1.out))).trans (hold HH1_1.out); have hh2 : w2.heap[w1.heap.size]? = some (.cells (rowV u) 51 (0, 0)) := hnw; clear lt0 c0_0 c0_1 lt1 c1_0 c1_1 hbw1 hnw hoth hsz hbel; have HH0_2 := Lib.hid hh0; have lt0 := heap_lt hh0; have c0_0 : w2.cell? ⟨w.heap.size, 0, none⟩ = some (.int .i64 m) := (by rw [Lib.cell_of_heap hh0]; rfl); have c0_1 : w2.cell? ⟨w.heap.size, 1, none⟩ = some (.int .i64 s) := (by rw [Lib.cell_of_heap hh0]; rfl); clear hh0; have HH1_2 := Lib.hid hh1; have lt1 := heap_lt hh1; have c1_0 : w2.cell? ⟨w.heap.size + 1, 0, none⟩ = some (.int .i64 n) := (by rw [Lib.cell_of_heap hh1]; rfl); have c1_1 : w2.cell? ⟨w.heap.size + 1, 1, none⟩ = some (.int .i64 t) := (by rw [Lib.cell_of_heap hh1]; rfl); clear hh1; have HH2_2 := Lib.hid hh2; have lt2 := heap_lt hh2; clear hh2; have sz2 := hbw2.size; have HW2 := Lib.hid hbw2))
  refine (H2.out _).mono ?_; rintro e w3 ⟨rfl, hb⟩
  have hv0 := HH0_2.out
  have hh0 : w3.heap[w.heap.size]? = some (.cells #[.int .i64 m, .int .i64 s] 23 (0, 0)) := (hb.block _ (heap_lt hv0)).trans hv0
  clear hv0
  have hv1 := HH1_2.out
  have hh1 : w3.heap[w.heap.size + 1]? = some (.cells #[.int .i64 n, .int .i64 t] 23 (0, 0)) := (hb.block _ (heap_lt hv1)).trans hv1
  clear hv1
  have hv2 := HH2_2.out
  have hh2 : w3.heap[w1.heap.size]? = some (.cells (rowV u) 51 (0, 0)) := (hb.block _ (heap_lt hv2)).trans hv2
  clear hv2
  have hbw3 : Below w.heap.size w w3 := (show Below w.heap.size w _ by first | exact HW2.out.trans ⟨rfl, rfl, rfl, Nat.le_refl _, fun _ _ => rfl⟩ | exact HW2.out | (go_grown; done)).trans (hb.mono (by first | omega | (simp; done) | (simp; omega)))
  clear hb lt0 c0_0 c0_1 lt1 c1_0 c1_1 lt2 hbw2
  have HH0_3 := Lib.hid hh0
  have lt0 := heap_lt hh0
  have c0_0 : w3.cell? ⟨w.heap.size, 0, none⟩ = some (.int .i64 m) := by rw [Lib.cell_of_heap hh0]; rfl
  have c0_1 : w3.cell? ⟨w.heap.size, 1, none⟩ = some (.int .i64 s) := by rw [Lib.cell_of_heap hh0]; rfl
  clear hh0
  have HH1_3 := Lib.hid hh1
  have lt1 := heap_lt hh1
  have c1_0 : w3.cell? ⟨w.heap.size + 1, 0, none⟩ = some (.int .i64 n) := by rw [Lib.cell_of_heap hh1]; rfl
  have c1_1 : w3.cell? ⟨w.heap.size + 1, 1, none⟩ = some (.int .i64 t) := by rw [Lib.cell_of_heap hh1]; rfl
  clear hh1
  have HH2_3 := Lib.hid hh2
  have lt2 := heap_lt hh2
  clear hh2
  have sz3 := hbw3.size
  have HW3 := Lib.hid hbw3
  have HZ4 : Hid ((w3.alloc (.cells #[.int .i64 0, .int .i64 0, .int .i64 0, .int .i64 0, .int .i64 0, .int .i64 0, .int .i64 0, .int .i64 0, .int .i64 0, .int .i64 0, .int .i64 0, .int .i64 0, .int .i64 0, .int .i64 0, .int .i64 0, .int .i64 0, .int .i64 0, .int .i64 0, .int .i64 0, .int .i64 0, .int .i64 0, .int .i64 0, .int .i64 0, .int .i64 0, .int .i64 0, .int .i64 0, .int .i64 0, .int .i64 0, .int .i64 0, .int .i64 0, .int .i64 0, .int .i64 0, .int .i64 0, .int .i64 0, .int .i64 0, .int .i64 0, .int .i64 0, .int .i64 0, .int .i64 0, .int .i64 0] 51)).heap[w3.heap.size]? = some (.cells (rowF (fun _ => 0)) 51 (0, 0))) := Lib.hid (by rw [← rowF_zero]; exact hnew _ _ _ rfl)
  go_wp2_with (first | (refine row_store rfl 51 _ _ rfl w3.heap.size (rowV v) rfl rfl 51 (rowF (fun _ => 0)) HZ4.out (info40V _) (by rw [rowF_size, rowV_size]) (rowV_one _) ?_; intro w4 hnw hoth hsz hbel; have hbw4 : Below w.heap.size w w4 := hbel _ _ ((HW3.out).alloc (by omega) _) (by omega); have hh0 : w4.heap[w.heap.size]? = some (.cells #[.int .i64 m, .int .i64 s] 23 (0, 0)) := (hoth _ (Nat.ne_of_lt (heap_lt HH0_3.out))).trans (hold HH0_3.out); have hh1 : w4.heap[w.heap.size + 1]? = some (.cells #[.int .i64 n, .int .i64 t] 23 (0, 0)) := (hoth _ (Nat.ne_of_lt (heap_lt HH1_3.out))).trans (hold HH1_3.out); have hh2 : w4.heap[w1.heap.size]? = some (.cells (rowV u) 51 (0, 0)) := (hoth _ (Nat.ne_of_lt (heap_lt HH2_3.out))).trans (hold HH2_3.out); have hh3 : w4.heap[w3.heap.size]? = some (.cells (rowV v) 51 (0, 0)) := hnw; clear lt0 c0_0 c0_1 lt1 c1_0 c1_1 lt2 hbw3 hnw hoth hsz hbel; have HH0_4 := Lib.hid hh0; have lt0 := heap_lt hh0; have c0_0 : w4.cell? ⟨w.heap.size, 0, none⟩ = some (.int .i64 m) := (by rw [Lib.cell_of_heap hh0]; rfl); have c0_1 : w4.cell? ⟨w.heap.size, 1, none⟩ = some (.int .i64 s) := (by rw [Lib.cell_of_heap hh0]; rfl); clear hh0; have HH1_4 := Lib.hid hh1; have lt1 := heap_lt hh1; have c1_0 : w4.cell? ⟨w.heap.size + 1, 0, none⟩ = some (.int .i64 n) := (by rw [Lib.cell_of_heap hh1]; rfl); have c1_1 : w4.cell? ⟨w.heap.size + 1, 1, none⟩ = some (.int .i64 t) := (by rw [Lib.cell_of_heap hh1]; rfl); clear hh1; have HH2_4 := Lib.hid hh2; have lt2 := heap_lt hh2; clear hh2; have HH3_4 := Lib.hid hh3; have lt3 := heap_lt hh3; clear hh3; have sz4 := hbw4.size; have HW4 := Lib.hid hbw4) | (refine wpList_load_row rfl 51 _ rfl (w1.heap.size) rfl 51 (rowV u) (0, 0) _ HH2_4.out Tryd.underlying51 rfl (info40V _) ?_) | (refine wpList_load_row rfl 51 _ rfl (w3.heap.size) rfl 51 (rowV v) (0, 0) _ HH3_4.out Tryd.underlying51 rfl (info40V _) ?_))
  refine (H3.out _).mono ?_; rintro e w5 ⟨rfl, hb⟩
  have hv0 := HH0_4.out
  have hh0 : w5.heap[w.heap.size]? = some (.cells #[.int .i64 m, .int .i64 s] 23 (0, 0)) := (hb.block _ (heap_lt hv0)).trans hv0
  clear hv0
  have hv1 := HH1_4.out
  have hh1 : w5.heap[w.heap.size + 1]? = some (.cells #[.int .i64 n, .int .i64 t] 23 (0, 0)) := (hb.block _ (heap_lt hv1)).trans hv1
  clear hv1
  have hv2 := HH2_4.out
  have hh2 : w5.heap[w1.heap.size]? = some (.cells (rowV u) 51 (0, 0)) := (hb.block _ (heap_lt hv2)).trans hv2
  clear hv2
  have hv3 := HH3_4.out
  have hh3 : w5.heap[w3.heap.size]? = some (.cells (rowV v) 51 (0, 0)) := (hb.block _ (heap_lt hv3)).trans hv3
  clear hv3
  have hbw5 : Below w.heap.size w w5 := (show Below w.heap.size w _ by first | exact HW4.out.trans ⟨rfl, rfl, rfl, Nat.le_refl _, fun _ _ => rfl⟩ | exact HW4.out | (go_grown; done)).trans (hb.mono (by first | omega | (simp; done) | (simp; omega)))
  clear hb lt0 c0_0 c0_1 lt1 c1_0 c1_1 lt2 lt3 hbw4
  have HH0_5 := Lib.hid hh0
  have lt0 := heap_lt hh0
  have c0_0 : w5.cell? ⟨w.heap.size, 0, none⟩ = some (.int .i64 m) := by rw [Lib.cell_of_heap hh0]; rfl
  have c0_1 : w5.cell? ⟨w.heap.size, 1, none⟩ = some (.int .i64 s) := by rw [Lib.cell_of_heap hh0]; rfl
  clear hh0
  have HH1_5 := Lib.hid hh1
  have lt1 := heap_lt hh1
  have c1_0 : w5.cell? ⟨w.heap.size + 1, 0, none⟩ = some (.int .i64 n) := by rw [Lib.cell_of_heap hh1]; rfl
  have c1_1 : w5.cell? ⟨w.heap.size + 1, 1, none⟩ = some (.int .i64 t) := by rw [Lib.cell_of_heap hh1]; rfl
  clear hh1
  have HH2_5 := Lib.hid hh2
  have lt2 := heap_lt hh2
  clear hh2
  have HH3_5 := Lib.hid hh3
  have lt3 := heap_lt hh3
  clear hh3
  have sz5 := hbw5.size
  have HW5 := Lib.hid hbw5
  go_wp2_with fail
  go_ret
  exact ⟨rfl, by first | exact HW5.out | (go_grown; done)⟩
set_option maxRecDepth 100000 in
set_option maxHeartbeats 4000000 in
theorem rord_ft (m s n t : Int) (u v : Nat) (w : World) (H1 : Hid (∀ w, Calls Tryd.prog 23 #[.agg #[.int .i64 m, .int .i64 s]] w fun e w' => e = .returned (.tuple #[.agg (rowV u), .bool true]) ∧ Below w.heap.size w w')) (H2 : Hid (∀ w, Calls Tryd.prog 23 #[.agg #[.int .i64 n, .int .i64 t]] w fun e w' => e = .returned (.tuple #[.agg (rowV v), .bool true]) ∧ Below w.heap.size w w')) (H3 : Hid (∀ w, Calls Tryd.prog 24 #[.agg (rowV u), .agg (rowV v)] w fun e w' => e = .returned (.bool false) ∧ Below w.heap.size w w'))
    (hq : ∀ w, (binOp .eql 23 (.agg #[.int .i64 m, .int .i64 s]) (.agg #[.int .i64 n, .int .i64 t])).run Tryd.prog w = .ok (.bool false) w) :
    Calls Tryd.prog 29 #[.agg #[.int .i64 m, .int .i64 s], .agg #[.int .i64 n, .int .i64 t]] w fun e w' => e = .returned (.int .i64 (-1)) ∧ Below w.heap.size w w' := by
  go_enter Tryd.func29, Tryd.ntmps29
  go_wp2_with fail
  refine (H1.out _).mono ?_; rintro e w1 ⟨rfl, hb⟩
  have hh0 : w1.heap[w.heap.size]? = some (.cells #[.int .i64 m, .int .i64 s] 23 (0, 0)) := (hb.block _ (by first | omega | (simp; done) | (simp; omega))).trans (heap_old (o' := (.cells #[.int .i64 n, .int .i64 t] 23 (0, 0))) (heap_new _ _ _ (by first | rfl | simp)))
  have hh1 : w1.heap[w.heap.size + 1]? = some (.cells #[.int .i64 n, .int .i64 t] 23 (0, 0)) := (hb.block _ (by first | omega | (simp; done) | (simp; omega))).trans (heap_new _ _ _ (by first | rfl | simp))
  have hbw1 : Below w.heap.size w w1 := (show Below w.heap.size w _ by first | exact Below.refl _ _ | (go_grown; done)).trans (hb.mono (by first | omega | (simp; done) | (simp; omega)))
  clear hb
  have HH0_1 := Lib.hid hh0
  have lt0 := heap_lt hh0
  have c0_0 : w1.cell? ⟨w.heap.size, 0, none⟩ = some (.int .i64 m) := by rw [Lib.cell_of_heap hh0]; rfl
  have c0_1 : w1.cell? ⟨w.heap.size, 1, none⟩ = some (.int .i64 s) := by rw [Lib.cell_of_heap hh0]; rfl
  clear hh0
  have HH1_1 := Lib.hid hh1
  have lt1 := heap_lt hh1
  have c1_0 : w1.cell? ⟨w.heap.size + 1, 0, none⟩ = some (.int .i64 n) := by rw [Lib.cell_of_heap hh1]; rfl
  have c1_1 : w1.cell? ⟨w.heap.size + 1, 1, none⟩ = some (.int .i64 t) := by rw [Lib.cell_of_heap hh1]; rfl
  clear hh1
  have sz1 := hbw1.size
  have HW1 := Lib.hid hbw1
  have HZ2 : Hid ((w1.alloc (.cells #[.int .i64 0, .int .i64 0, .int .i64 0, .int .i64 0, .int .i64 0, .int .i64 0, .int .i64 0, .int .i64 0, .int .i64 0, .int .i64 0, .int .i64 0, .int .i64 0, .int .i64 0, .int .i64 0, .int .i64 0, .int .i64 0, .int .i64 0, .int .i64 0, .int .i64 0, .int .i64 0, .int .i64 0, .int .i64 0, .int .i64 0, .int .i64 0, .int .i64 0, .int .i64 0, .int .i64 0, .int .i64 0, .int .i64 0, .int .i64 0, .int .i64 0, .int .i64 0, .int .i64 0, .int .i64 0, .int .i64 0, .int .i64 0, .int .i64 0, .int .i64 0, .int .i64 0, .int .i64 0] 51)).heap[w1.heap.size]? = some (.cells (rowF (fun _ => 0)) 51 (0, 0))) := Lib.hid (by rw [← rowF_zero]; exact hnew _ _ _ rfl)
  go_wp2_with (first | (refine row_store rfl 51 _ _ rfl w1.heap.size (rowV u) rfl rfl 51 (rowF (fun _ => 0)) HZ2.out (info40V _) (by rw [rowF_size, rowV_size]) (rowV_one _) ?_; intro w2 hnw hoth hsz hbel; have hbw2 : Below w.heap.size w w2 := hbel _ _ ((HW1.out).alloc (by omega) _) (by omega); have hh0 : w2.heap[w.heap.size]? = some (.cells #[.int .i64 m, .int .i64 s] 23 (0, 0)) := (hoth _ (Nat.ne_of_lt (heap_lt HH0_1.out))).trans (hold HH0_1.out); have hh1 : w2.heap[w.heap.size + 1]? = some (.cells #[.int .i64 n, .int .i64 t] 23 (0, 0)) := (hoth _ (Nat.ne_of_lt (heap_lt HH1_1.out))).trans (hold HH1_1.out); have hh2 : w2.heap[w1.heap.size]? = some (.cells (rowV u) 51 (0, 0)) := hnw; clear lt0 c0_0 c0_1 lt1 c1_0 c1_1 hbw1 hnw hoth hsz hbel; have HH0_2 := Lib.hid hh0; have lt0 := heap_lt hh0; have c0_0 : w2.cell? ⟨w.heap.size, 0, none⟩ = some (.int .i64 m) := (by rw [Lib.cell_of_heap hh0]; rfl); have c0_1 : w2.cell? ⟨w.heap.size, 1, none⟩ = some (.int .i64 s) := (by rw [Lib.cell_of_heap hh0]; rfl); clear hh0; have HH1_2 := Lib.hid hh1; have lt1 := heap_lt hh1; have c1_0 : w2.cell? ⟨w.heap.size + 1, 0, none⟩ = some (.int .i64 n) := (by rw [Lib.cell_of_heap hh1]; rfl); have c1_1 : w2.cell? ⟨w.heap.size + 1, 1, none⟩ = some (.int .i64 t) := (by rw [Lib.cell_of_heap hh1]; rfl); clear hh1; have HH2_2 := Lib.hid hh2; have lt2 := heap_lt hh2; clear hh2; have sz2 := hbw2.size; have HW2 := Lib.hid hbw2))
  refine (H2.out _).mono ?_; rintro e w3 ⟨rfl, hb⟩
  have hv0 := HH0_2.out
  have hh0 : w3.heap[w.heap.size]? = some (.cells #[.int .i64 m, .int .i64 s] 23 (0, 0)) := (hb.block _ (heap_lt hv0)).trans hv0
  clear hv0
  have hv1 := HH1_2.out
  have hh1 : w3.heap[w.heap.size + 1]? = some (.cells #[.int .i64 n, .int .i64 t] 23 (0, 0)) := (hb.block _ (heap_lt hv1)).trans hv1
  clear hv1
  have hv2 := HH2_2.out
  have hh2 : w3.heap[w1.heap.size]? = some (.cells (rowV u) 51 (0, 0)) := (hb.block _ (heap_lt hv2)).trans hv2
  clear hv2
  have hbw3 : Below w.heap.size w w3 := (show Below w.heap.size w _ by first | exact HW2.out.trans ⟨rfl, rfl, rfl, Nat.le_refl _, fun _ _ => rfl⟩ | exact HW2.out | (go_grown; done)).trans (hb.mono (by first | omega | (simp; done) | (simp; omega)))
  clear hb lt0 c0_0 c0_1 lt1 c1_0 c1_1 lt2 hbw2
  have HH0_3 := Lib.hid hh0
  have lt0 := heap_lt hh0
  have c0_0 : w3.cell? ⟨w.heap.size, 0, none⟩ = some (.int .i64 m) := by rw [Lib.cell_of_heap hh0]; rfl
  have c0_1 : w3.cell? ⟨w.heap.size, 1, none⟩ = some (.int .i64 s) := by rw [Lib.cell_of_heap hh0]; rfl
  clear hh0
  have HH1_3 := Lib.hid hh1
  have lt1 := heap_lt hh1
  have c1_0 : w3.cell? ⟨w.heap.size + 1, 0, none⟩ = some (.int .i64 n) := by rw [Lib.cell_of_heap hh1]; rfl
  have c1_1 : w3.cell? ⟨w.heap.size + 1, 1, none⟩ = some (.int .i64 t) := by rw [Lib.cell_of_heap hh1]; rfl
  clear hh1
  have HH2_3 := Lib.hid hh2
  have lt2 := heap_lt hh2
  clear hh2
  have sz3 := hbw3.size
  have HW3 := Lib.hid hbw3
  have HZ4 : Hid ((w3.alloc (.cells #[.int .i64 0, .int .i64 0, .int .i64 0, .int .i64 0, .int .i64 0, .int .i64 0, .int .i64 0, .int .i64 0, .int .i64 0, .int .i64 0, .int .i64 0, .int .i64 0, .int .i64 0, .int .i64 0, .int .i64 0, .int .i64 0, .int .i64 0, .int .i64 0, .int .i64 0, .int .i64 0, .int .i64 0, .int .i64 0, .int .i64 0, .int .i64 0, .int .i64 0, .int .i64 0, .int .i64 0, .int .i64 0, .int .i64 0, .int .i64 0, .int .i64 0, .int .i64 0, .int .i64 0, .int .i64 0, .int .i64 0, .int .i64 0, .int .i64 0, .int .i64 0, .int .i64 0, .int .i64 0] 51)).heap[w3.heap.size]? = some (.cells (rowF (fun _ => 0)) 51 (0, 0))) := Lib.hid (by rw [← rowF_zero]; exact hnew _ _ _ rfl)
  go_wp2_with (first | (refine row_store rfl 51 _ _ rfl w3.heap.size (rowV v) rfl rfl 51 (rowF (fun _ => 0)) HZ4.out (info40V _) (by rw [rowF_size, rowV_size]) (rowV_one _) ?_; intro w4 hnw hoth hsz hbel; have hbw4 : Below w.heap.size w w4 := hbel _ _ ((HW3.out).alloc (by omega) _) (by omega); have hh0 : w4.heap[w.heap.size]? = some (.cells #[.int .i64 m, .int .i64 s] 23 (0, 0)) := (hoth _ (Nat.ne_of_lt (heap_lt HH0_3.out))).trans (hold HH0_3.out); have hh1 : w4.heap[w.heap.size + 1]? = some (.cells #[.int .i64 n, .int .i64 t] 23 (0, 0)) := (hoth _ (Nat.ne_of_lt (heap_lt HH1_3.out))).trans (hold HH1_3.out); have hh2 : w4.heap[w1.heap.size]? = some (.cells (rowV u) 51 (0, 0)) := (hoth _ (Nat.ne_of_lt (heap_lt HH2_3.out))).trans (hold HH2_3.out); have hh3 : w4.heap[w3.heap.size]? = some (.cells (rowV v) 51 (0, 0)) := hnw; clear lt0 c0_0 c0_1 lt1 c1_0 c1_1 lt2 hbw3 hnw hoth hsz hbel; have HH0_4 := Lib.hid hh0; have lt0 := heap_lt hh0; have c0_0 : w4.cell? ⟨w.heap.size, 0, none⟩ = some (.int .i64 m) := (by rw [Lib.cell_of_heap hh0]; rfl); have c0_1 : w4.cell? ⟨w.heap.size, 1, none⟩ = some (.int .i64 s) := (by rw [Lib.cell_of_heap hh0]; rfl); clear hh0; have HH1_4 := Lib.hid hh1; have lt1 := heap_lt hh1; have c1_0 : w4.cell? ⟨w.heap.size + 1, 0, none⟩ = some (.int .i64 n) := (by rw [Lib.cell_of_heap hh1]; rfl); have c1_1 : w4.cell? ⟨w.heap.size + 1, 1, none⟩ = some (.int .i64 t) := (by rw [Lib.cell_of_heap hh1]; rfl); clear hh1; have HH2_4 := Lib.hid hh2; have lt2 := heap_lt hh2; clear hh2; have HH3_4 := Lib.hid hh3; have lt3 := heap_lt hh3; clear hh3; have sz4 := hbw4.size; have HW4 := Lib.hid hbw4) | (refine wpList_load_row rfl 51 _ rfl (w1.heap.size) rfl 51 (rowV u) (0, 0) _ HH2_4.out Tryd.underlying51 rfl (info40V _) ?_) | (refine wpList_load_row rfl 51 _ rfl (w3.heap.size) rfl 51 (rowV v) (0, 0) _ HH3_4.out Tryd.underlying51 rfl (info40V _) ?_))
  refine (H3.out _).mono ?_; rintro e w5 ⟨rfl, hb⟩
  have hv0 := HH0_4.out
  have hh0 : w5.heap[w.heap.size]? = some (.cells #[.int .i64 m, .int .i64 s] 23 (0, 0)) := (hb.block _ (heap_lt hv0)).trans hv0
  clear hv0
  have hv1 := HH1_4.out
  have hh1 : w5.heap[w.heap.size + 1]? = some (.cells #[.int .i64 n, .int .i64 t] 23 (0, 0)) := (hb.block _ (heap_lt hv1)).trans hv1
  clear hv1
  have hv2 := HH2_4.out
  have hh2 : w5.heap[w1.heap.size]? = some (.cells (rowV u) 51 (0, 0)) := (hb.block _ (heap_lt hv2)).trans hv2
  clear hv2
  have hv3 := HH3_4.out
  have hh3 : w5.heap[w3.heap.size]? = some (.cells (rowV v) 51 (0, 0)) := (hb.block _ (heap_lt hv3)).trans hv3
  clear hv3
  have hbw5 : Below w.heap.size w w5 := (show Below w.heap.size w _ by first | exact HW4.out.trans ⟨rfl, rfl, rfl, Nat.le_refl _, fun _ _ => rfl⟩ | exact HW4.out | (go_grown; done)).trans (hb.mono (by first | omega | (simp; done) | (simp; omega)))
  clear hb lt0 c0_0 c0_1 lt1 c1_0 c1_1 lt2 lt3 hbw4
  have HH0_5 := Lib.hid hh0
  have lt0 := heap_lt hh0
  have c0_0 : w5.cell? ⟨w.heap.size, 0, none⟩ = some (.int .i64 m) := by rw [Lib.cell_of_heap hh0]; rfl
  have c0_1 : w5.cell? ⟨w.heap.size, 1, none⟩ = some (.int .i64 s) := by rw [Lib.cell_of_heap hh0]; rfl
  clear hh0
  have HH1_5 := Lib.hid hh1
  have lt1 := heap_lt hh1
  have c1_0 : w5.cell? ⟨w.heap.size + 1, 0, none⟩ = some (.int .i64 n) := by rw [Lib.cell_of_heap hh1]; rfl
  have c1_1 : w5.cell? ⟨w.heap.size + 1, 1, none⟩ = some (.int .i64 t) := by rw [Lib.cell_of_heap hh1]; rfl
  clear hh1
  have HH2_5 := Lib.hid hh2
  have lt2 := heap_lt hh2
  clear hh2
  have HH3_5 := Lib.hid hh3
  have lt3 := heap_lt hh3
  clear hh3
  have sz5 := hbw5.size
  have HW5 := Lib.hid hbw5
  go_wp2_with fail
  go_ret
  exact ⟨rfl, by first | exact HW5.out | (go_grown; done)⟩
set_option maxRecDepth 100000 in
set_option maxHeartbeats 4000000 in
theorem rord_st (m s n t : Int) (u v : Nat) (w : World) (H1 : Hid (∀ w, Calls Tryd.prog 23 #[.agg #[.int .i64 m, .int .i64 s]] w fun e w' => e = .returned (.tuple #[.agg (rowV u), .bool true]) ∧ Below w.heap.size w w')) (H2 : Hid (∀ w, Calls Tryd.prog 23 #[.agg #[.int .i64 n, .int .i64 t]] w fun e w' => e = .returned (.tuple #[.agg (rowV v), .bool false]) ∧ Below w.heap.size w w'))
    (hq : ∀ w, (binOp .eql 23 (.agg #[.int .i64 m, .int .i64 s]) (.agg #[.int .i64 n, .int .i64 t])).run Tryd.prog w = .ok (.bool false) w) :
    Calls Tryd.prog 29 #[.agg #[.int .i64 m, .int .i64 s], .agg #[.int .i64 n, .int .i64 t]] w fun e w' => e = .returned (.int .i64 (-1)) ∧ Below w.heap.size w w' := by
  go_enter Tryd.func29, Tryd.ntmps29
  go_wp2_with fail
  refine (H1.out _).mono ?_; rintro e w1 ⟨rfl, hb⟩
  have hh0 : w1.heap[w.heap.size]? = some (.cells #[.int .i64 m, .int .i64 s] 23 (0, 0)) := (hb.block _ (by first | omega | (simp; done) | (simp; omega))).trans (heap_old (o' := (.cells #[.int .i64 n, .int .i64 t] 23 (0, 0))) (heap_new _ _ _ (by first | rfl | simp)))
  have hh1 : w1.heap[w.heap.size + 1]? = some (.cells #[.int .i64 n, .int .i64 t] 23 (0, 0)) := (hb.block _ (by first | omega | (simp; done) | (simp; omega))).trans (heap_new _ _ _ (by first | rfl | simp))
  have hbw1 : Below w.heap.size w w1 := (show Below w.heap.size w _ by first | exact Below.refl _ _ | (go_grown; done)).trans (hb.mono (by first | omega | (simp; done) | (simp; omega)))
  clear hb
  have HH0_1 := Lib.hid hh0
  have lt0 := heap_lt hh0
  have c0_0 : w1.cell? ⟨w.heap.size, 0, none⟩ = some (.int .i64 m) := by rw [Lib.cell_of_heap hh0]; rfl
  have c0_1 : w1.cell? ⟨w.heap.size, 1, none⟩ = some (.int .i64 s) := by rw [Lib.cell_of_heap hh0]; rfl
  clear hh0
  have HH1_1 := Lib.hid hh1
  have lt1 := heap_lt hh1
  have c1_0 : w1.cell? ⟨w.heap.size + 1, 0, none⟩ = some (.int .i64 n) := by rw [Lib.cell_of_heap hh1]; rfl
  have c1_1 : w1.cell? ⟨w.heap.size + 1, 1, none⟩ = some (.int .i64 t) := by rw [Lib.cell_of_heap hh1]; rfl
  clear hh1
  have sz1 := hbw1.size
  have HW1 := Lib.hid hbw1
  have HZ2 : Hid ((w1.alloc (.cells #[.int .i64 0, .int .i64 0, .int .i64 0, .int .i64 0, .int .i64 0, .int .i64 0, .int .i64 0, .int .i64 0, .int .i64 0, .int .i64 0, .int .i64 0, .int .i64 0, .int .i64 0, .int .i64 0, .int .i64 0, .int .i64 0, .int .i64 0, .int .i64 0, .int .i64 0, .int .i64 0, .int .i64 0, .int .i64 0, .int .i64 0, .int .i64 0, .int .i64 0, .int .i64 0, .int .i64 0, .int .i64 0, .int .i64 0, .int .i64 0, .int .i64 0, .int .i64 0, .int .i64 0, .int .i64 0, .int .i64 0, .int .i64 0, .int .i64 0, .int .i64 0, .int .i64 0, .int .i64 0] 51)).heap[w1.heap.size]? = some (.cells (rowF (fun _ => 0)) 51 (0, 0))) := Lib.hid (by rw [← rowF_zero]; exact hnew _ _ _ rfl)
  go_wp2_with (first | (refine row_store rfl 51 _ _ rfl w1.heap.size (rowV u) rfl rfl 51 (rowF (fun _ => 0)) HZ2.out (info40V _) (by rw [rowF_size, rowV_size]) (rowV_one _) ?_; intro w2 hnw hoth hsz hbel; have hbw2 : Below w.heap.size w w2 := hbel _ _ ((HW1.out).alloc (by omega) _) (by omega); have hh0 : w2.heap[w.heap.size]? = some (.cells #[.int .i64 m, .int .i64 s] 23 (0, 0)) := (hoth _ (Nat.ne_of_lt (heap_lt HH0_1.out))).trans (hold HH0_1.out); have hh1 : w2.heap[w.heap.size + 1]? = some (.cells #[.int .i64 n, .int .i64 t] 23 (0, 0)) := (hoth _ (Nat.ne_of_lt (heap_lt HH1_1.out))).trans (hold HH1_1.out); have hh2 : w2.heap[w1.heap.size]? = some (.cells (rowV u) 51 (0, 0)) := hnw; clear lt0 c0_0 c0_1 lt1 c1_0 c1_1 hbw1 hnw hoth hsz hbel; have HH0_2 := Lib.hid hh0; have lt0 := heap_lt hh0; have c0_0 : w2.cell? ⟨w.heap.size, 0, none⟩ = some (.int .i64 m) := (by rw [Lib.cell_of_heap hh0]; rfl); have c0_1 : w2.cell? ⟨w.heap.size, 1, none⟩ = some (.int .i64 s) := (by rw [Lib.cell_of_heap hh0]; rfl); clear hh0; have HH1_2 := Lib.hid hh1; have lt1 := heap_lt hh1; have c1_0 : w2.cell? ⟨w.heap.size + 1, 0, none⟩ = some (.int .i64 n) := (by rw [Lib.cell_of_heap hh1]; rfl); have c1_1 : w2.cell? ⟨w.heap.size + 1, 1, none⟩ = some (.int .i64 t) := (by rw [Lib.cell_of_heap hh1]; rfl); clear hh1; have HH2_2 := Lib.hid hh2; have lt2 := heap_lt hh2; clear hh2; have sz2 := hbw2.size; have HW2 := Lib.hid hbw2))
  refine (H2.out _).mono ?_; rintro e w3 ⟨rfl, hb⟩
  have hv0 := HH0_2.out
  have hh0 : w3.heap[w.heap.size]? = some (.cells #[.int .i64 m, .int .i64 s] 23 (0, 0)) := (hb.block _ (heap_lt hv0)).trans hv0
  clear hv0
  have hv1 := HH1_2.out
  have hh1 : w3.heap[w.heap.size + 1]? = some (.cells #[.int .i64 n, .int .i64 t] 23 (0, 0)) := (hb.block _ (heap_lt hv1)).trans hv1
  clear hv1
  have hv2 := HH2_2.out
  have hh2 : w3.heap[w1.heap.size]? = some (.cells (rowV u) 51 (0, 0)) := (hb.block _ (heap_lt hv2)).trans hv2
  clear hv2
  have hbw3 : Below w.heap.size w w3 := (show Below w.heap.size w _ by first | exact HW2.out.trans ⟨rfl, rfl, rfl, Nat.le_refl _, fun _ _ => rfl⟩ | exact HW2.out | (go_grown; done)).trans (hb.mono (by first | omega | (simp; done) | (simp; omega)))
  clear hb lt0 c0_0 c0_1 lt1 c1_0 c1_1 lt2 hbw2
  have HH0_3 := Lib.hid hh0
  have lt0 := heap_lt hh0
  have c0_0 : w3.cell? ⟨w.heap.size, 0, none⟩ = some (.int .i64 m) := by rw [Lib.cell_of_heap hh0]; rfl
  have c0_1 : w3.cell? ⟨w.heap.size, 1, none⟩ = some (.int .i64 s) := by rw [Lib.cell_of_heap hh0]; rfl
  clear hh0
  have HH1_3 := Lib.hid hh1
  have lt1 := heap_lt hh1
  have c1_0 : w3.cell? ⟨w.heap.size + 1, 0, none⟩ = some (.int .i64 n) := by rw [Lib.cell_of_heap hh1]; rfl
  have c1_1 : w3.cell? ⟨w.heap.size + 1, 1, none⟩ = some (.int .i64 t) := by rw [Lib.cell_of_heap hh1]; rfl
  clear hh1
  have HH2_3 := Lib.hid hh2
  have lt2 := heap_lt hh2
  clear hh2
  have sz3 := hbw3.size
  have HW3 := Lib.hid hbw3
  have HZ4 : Hid ((w3.alloc (.cells #[.int .i64 0, .int .i64 0, .int .i64 0, .int .i64 0, .int .i64 0, .int .i64 0, .int .i64 0, .int .i64 0, .int .i64 0, .int .i64 0, .int .i64 0, .int .i64 0, .int .i64 0, .int .i64 0, .int .i64 0, .int .i64 0, .int .i64 0, .int .i64 0, .int .i64 0, .int .i64 0, .int .i64 0, .int .i64 0, .int .i64 0, .int .i64 0, .int .i64 0, .int .i64 0, .int .i64 0, .int .i64 0, .int .i64 0, .int .i64 0, .int .i64 0, .int .i64 0, .int .i64 0, .int .i64 0, .int .i64 0, .int .i64 0, .int .i64 0, .int .i64 0, .int .i64 0, .int .i64 0] 51)).heap[w3.heap.size]? = some (.cells (rowF (fun _ => 0)) 51 (0, 0))) := Lib.hid (by rw [← rowF_zero]; exact hnew _ _ _ rfl)
  go_wp2_with (first | (refine row_store rfl 51 _ _ rfl w3.heap.size (rowV v) rfl rfl 51 (rowF (fun _ => 0)) HZ4.out (info40V _) (by rw [rowF_size, rowV_size]) (rowV_one _) ?_; intro w4 hnw hoth hsz hbel; have hbw4 : Below w.heap.size w w4 := hbel _ _ ((HW3.out).alloc (by omega) _) (by omega); have hh0 : w4.heap[w.heap.size]? = some (.cells #[.int .i64 m, .int .i64 s] 23 (0, 0)) := (hoth _ (Nat.ne_of_lt (heap_lt HH0_3.out))).trans (hold HH0_3.out); have hh1 : w4.heap[w.heap.size + 1]? = some (.cells #[.int .i64 n, .int .i64 t] 23 (0, 0)) := (hoth _ (Nat.ne_of_lt (heap_lt HH1_3.out))).trans (hold HH1_3.out); have hh2 : w4.heap[w1.heap.size]? = some (.cells (rowV u) 51 (0, 0)) := (hoth _ (Nat.ne_of_lt (heap_lt HH2_3.out))).trans (hold HH2_3.out); have hh3 : w4.heap[w3.heap.size]? = some (.cells (rowV v) 51 (0, 0)) := hnw; clear lt0 c0_0 c0_1 lt1 c1_0 c1_1 lt2 hbw3 hnw hoth hsz hbel; have HH0_4 := Lib.hid hh0; have lt0 := heap_lt hh0; have c0_0 : w4.cell? ⟨w.heap.size, 0, none⟩ = some (.int .i64 m) := (by rw [Lib.cell_of_heap hh0]; rfl); have c0_1 : w4.cell? ⟨w.heap.size, 1, none⟩ = some (.int .i64 s) := (by rw [Lib.cell_of_heap hh0]; rfl); clear hh0; have HH1_4 := Lib.hid hh1; have lt1 := heap_lt hh1; have c1_0 : w4.cell? ⟨w.heap.size + 1, 0, none⟩ = some (.int .i64 n) := (by rw [Lib.cell_of_heap hh1]; rfl); have c1_1 : w4.cell? ⟨w.heap.size + 1, 1, none⟩ = some (.int .i64 t) := (by rw [Lib.cell_of_heap hh1]; rfl); clear hh1; have HH2_4 := Lib.hid hh2; have lt2 := heap_lt hh2; clear hh2; have HH3_4 := Lib.hid hh3; have lt3 := heap_lt hh3; clear hh3; have sz4 := hbw4.size; have HW4 := Lib.hid hbw4))
  go_ret
  exact ⟨rfl, by first | exact HW4.out | (go_grown; done)⟩
set_option maxRecDepth 100000 in
set_option maxHeartbeats 4000000 in
theorem rord_sf (m s n t : Int) (u v : Nat) (w : World) (H1 : Hid (∀ w, Calls Tryd.prog 23 #[.agg #[.int .i64 m, .int .i64 s]] w fun e w' => e = .returned (.tuple #[.agg (rowV u), .bool false]) ∧ Below w.heap.size w w')) (H2 : Hid (∀ w, Calls Tryd.prog 23 #[.agg #[.int .i64 n, .int .i64 t]] w fun e w' => e = .returned (.tuple #[.agg (rowV v), .bool true]) ∧ Below w.heap.size w w'))
    (hq : ∀ w, (binOp .eql 23 (.agg #[.int .i64 m, .int .i64 s]) (.agg #[.int .i64 n, .int .i64 t])).run Tryd.prog w = .ok (.bool false) w) :
    Calls Tryd.prog 29 #[.agg #[.int .i64 m, .int .i64 s], .agg #[.int .i64 n, .int .i64 t]] w fun e w' => e = .returned (.int .i64 1) ∧ Below w.heap.size w w' := by
  go_enter Tryd.func29, Tryd.ntmps29
  go_wp2_with fail
  refine (H1.out _).mono ?_; rintro e w1 ⟨rfl, hb⟩
  have hh0 : w1.heap[w.heap.size]? = some (.cells #[.int .i64 m, .int .i64 s] 23 (0, 0)) := (hb.block _ (by first | omega | (simp; done) | (simp; omega))).trans (heap_old (o' := (.cells #[.int .i64 n, .int .i64 t] 23 (0, 0))) (heap_new _ _ _ (by first | rfl | simp)))
  have hh1 : w1.heap[w.heap.size + 1]? = some (.cells #[.int .i64 n, .int .i64 t] 23 (0, 0)) := (hb.block _ (by first | omega | (simp; done) | (simp; omega))).trans (heap_new _ _ _ (by first | rfl | simp))
  have hbw1 : Below w.heap.size w w1 := (show Below w.heap.size w _ by first | exact Below.refl _ _ | (go_grown; done)).trans (hb.mono (by first | omega | (simp; done) | (simp; omega)))
  clear hb
  have HH0_1 := Lib.hid hh0
  have lt0 := heap_lt hh0
  have c0_0 : w1.cell? ⟨w.heap.size, 0, none⟩ = some (.int .i64 m) := by rw [Lib.cell_of_heap hh0]; rfl
  have c0_1 : w1.cell? ⟨w.heap.size, 1, none⟩ = some (.int .i64 s) := by rw [Lib.cell_of_heap hh0]; rfl
  clear hh0
  have HH1_1 := Lib.hid hh1
  have lt1 := heap_lt hh1
  have c1_0 : w1.cell? ⟨w.heap.size + 1, 0, none⟩ = some (.int .i64 n) := by rw [Lib.cell_of_heap hh1]; rfl
  have c1_1 : w1.cell? ⟨w.heap.size + 1, 1, none⟩ = some (.int .i64 t) := by rw [Lib.cell_of_heap hh1]; rfl
  clear hh1
  have sz1 := hbw1.size
  have HW1 := Lib.hid hbw1
  have HZ2 : Hid ((w1.alloc (.cells #[.int .i64 0, .int .i64 0, .int .i64 0, .int .i64 0, .int .i64 0, .int .i64 0, .int .i64 0, .int .i64 0, .int .i64 0, .int .i64 0, .int .i64 0, .int .i64 0, .int .i64 0, .int .i64 0, .int .i64 0, .int .i64 0, .int .i64 0, .int .i64 0, .int .i64 0, .int .i64 0, .int .i64 0, .int .i64 0, .int .i64 0, .int .i64 0, .int .i64 0, .int .i64 0, .int .i64 0, .int .i64 0, .int .i64 0, .int .i64 0, .int .i64 0, .int .i64 0, .int .i64 0, .int .i64 0, .int .i64 0, .int .i64 0, .int .i64 0, .int .i64 0, .int .i64 0, .int .i64 0] 51)).heap[w1.heap.size]? = some (.cells (rowF (fun _ => 0)) 51 (0, 0))) := Lib.hid (by rw [← rowF_zero]; exact hnew _ _ _ rfl)
  go_wp2_with (first | (refine row_store rfl 51 _ _ rfl w1.heap.size (rowV u) rfl rfl 51 (rowF (fun _ => 0)) HZ2.out (info40V _) (by rw [rowF_size, rowV_size]) (rowV_one _) ?_; intro w2 hnw hoth hsz hbel; have hbw2 : Below w.heap.size w w2 := hbel _ _ ((HW1.out).alloc (by omega) _) (by omega); have hh0 : w2.heap[w.heap.size]? = some (.cells #[.int .i64 m, .int .i64 s] 23 (0, 0)) := (hoth _ (Nat.ne_of_lt (heap_lt HH0_1.out))).trans (hold HH0_1.out); have hh1 : w2.heap[w.heap.size + 1]? = some (.cells #[.int .i64 n, .int .i64 t] 23 (0, 0)) := (hoth _ (Nat.ne_of_lt (heap_lt HH1_1.out))).trans (hold HH1_1.out); have hh2 : w2.heap[w1.heap.size]? = some (.cells (rowV u) 51 (0, 0)) := hnw; clear lt0 c0_0 c0_1 lt1 c1_0 c1_1 hbw1 hnw hoth hsz hbel; have HH0_2 := Lib.hid hh0; have lt0 := heap_lt hh0; have c0_0 : w2.cell? ⟨w.heap.size, 0, none⟩ = some (.int .i64 m) := (by rw [Lib.cell_of_heap hh0]; rfl); have c0_1 : w2.cell? ⟨w.heap.size, 1, none⟩ = some (.int .i64 s) := (by rw [Lib.cell_of_heap hh0]; rfl); clear hh0; have HH1_2 := Lib.hid hh1; have lt1 := heap_lt hh1; have c1_0 : w2.cell? ⟨w.heap.size + 1, 0, none⟩ = some (.int .i64 n) := (by rw [Lib.cell_of_heap hh1]; rfl); have c1_1 : w2.cell? ⟨w.heap.size + 1, 1, none⟩ = some (.int .i64 t) := (by rw [Lib.cell_of_heap hh1]; rfl); clear hh1; have HH2_2 := Lib.hid hh2; have lt2 := heap_lt hh2; clear hh2; have sz2 := hbw2.size; have HW2 := Lib.hid hbw2))
  refine (H2.out _).mono ?_; rintro e w3 ⟨rfl, hb⟩
  have hv0 := HH0_2.out
  have hh0 : w3.heap[w.heap.size]? = some (.cells #[.int .i64 m, .int .i64 s] 23 (0, 0)) := (hb.block _ (heap_lt hv0)).trans hv0
  clear hv0
  have hv1 := HH1_2.out
  have hh1 : w3.heap[w.heap.size + 1]? = some (.cells #[.int .i64 n, .int .i64 t] 23 (0, 0)) := (hb.block _ (heap_lt hv1)).trans hv1
  clear hv1
  have hv2 := HH2_2.out
  have hh2 : w3.heap[w1.heap.size]? = some (.cells (rowV u) 51 (0, 0)) := (hb.block _ (heap_lt hv2)).trans hv2
  clear hv2
  have hbw3 : Below w.heap.size w w3 := (show Below w.heap.size w _ by first | exact HW2.out.trans ⟨rfl, rfl, rfl, Nat.le_refl _, fun _ _ => rfl⟩ | exact HW2.out | (go_grown; done)).trans (hb.mono (by first | omega | (simp; done) | (simp; omega)))
  clear hb lt0 c0_0 c0_1 lt1 c1_0 c1_1 lt2 hbw2
  have HH0_3 := Lib.hid hh0
  have lt0 := heap_lt hh0
  have c0_0 : w3.cell? ⟨w.heap.size, 0, none⟩ = some (.int .i64 m) := by rw [Lib.cell_of_heap hh0]; rfl
  have c0_1 : w3.cell? ⟨w.heap.size, 1, none⟩ = some (.int .i64 s) := by rw [Lib.cell_of_heap hh0]; rfl
  clear hh0
  have HH1_3 := Lib.hid hh1
  have lt1 := heap_lt hh1
  have c1_0 : w3.cell? ⟨w.heap.size + 1, 0, none⟩ = some (.int .i64 n) := by rw [Lib.cell_of_heap hh1]; rfl
  have c1_1 : w3.cell? ⟨w.heap.size + 1, 1, none⟩ = some (.int .i64 t) := by rw [Lib.cell_of_heap hh1]; rfl
  clear hh1
  have HH2_3 := Lib.hid hh2
  have lt2 := heap_lt hh2
  clear hh2
  have sz3 := hbw3.size
  have HW3 := Lib.hid hbw3
  have HZ4 : Hid ((w3.alloc (.cells #[.int .i64 0, .int .i64 0, .int .i64 0, .int .i64 0, .int .i64 0, .int .i64 0, .int .i64 0, .int .i64 0, .int .i64 0, .int .i64 0, .int .i64 0, .int .i64 0, .int .i64 0, .int .i64 0, .int .i64 0, .int .i64 0, .int .i64 0, .int .i64 0, .int .i64 0, .int .i64 0, .int .i64 0, .int .i64 0, .int .i64 0, .int .i64 0, .int .i64 0, .int .i64 0, .int .i64 0, .int .i64 0, .int .i64 0, .int .i64 0, .int .i64 0, .int .i64 0, .int .i64 0, .int .i64 0, .int .i64 0, .int .i64 0, .int .i64 0, .int .i64 0, .int .i64 0, .int .i64 0] 51)).heap[w3.heap.size]? = some (.cells (rowF (fun _ => 0)) 51 (0, 0))) := Lib.hid (by rw [← rowF_zero]; exact hnew _ _ _ rfl)
  go_wp2_with (first | (refine row_store rfl 51 _ _ rfl w3.heap.size (rowV v) rfl rfl 51 (rowF (fun _ => 0)) HZ4.out (info40V _) (by rw [rowF_size, rowV_size]) (rowV_one _) ?_; intro w4 hnw hoth hsz hbel; have hbw4 : Below w.heap.size w w4 := hbel _ _ ((HW3.out).alloc (by omega) _) (by omega); have hh0 : w4.heap[w.heap.size]? = some (.cells #[.int .i64 m, .int .i64 s] 23 (0, 0)) := (hoth _ (Nat.ne_of_lt (heap_lt HH0_3.out))).trans (hold HH0_3.out); have hh1 : w4.heap[w.heap.size + 1]? = some (.cells #[.int .i64 n, .int .i64 t] 23 (0, 0)) := (hoth _ (Nat.ne_of_lt (heap_lt HH1_3.out))).trans (hold HH1_3.out); have hh2 : w4.heap[w1.heap.size]? = some (.cells (rowV u) 51 (0, 0)) := (hoth _ (Nat.ne_of_lt (heap_lt HH2_3.out))).trans (hold HH2_3.out); have hh3 : w4.heap[w3.heap.size]? = some (.cells (rowV v) 51 (0, 0)) := hnw; clear lt0 c0_0 c0_1 lt1 c1_0 c1_1 lt2 hbw3 hnw hoth hsz hbel; have HH0_4 := Lib.hid hh0; have lt0 := heap_lt hh0; have c0_0 : w4.cell? ⟨w.heap.size, 0, none⟩ = some (.int .i64 m) := (by rw [Lib.cell_of_heap hh0]; rfl); have c0_1 : w4.cell? ⟨w.heap.size, 1, none⟩ = some (.int .i64 s) := (by rw [Lib.cell_of_heap hh0]; rfl); clear hh0; have HH1_4 := Lib.hid hh1; have lt1 := heap_lt hh1; have c1_0 : w4.cell? ⟨w.heap.size + 1, 0, none⟩ = some (.int .i64 n) := (by rw [Lib.cell_of_heap hh1]; rfl); have c1_1 : w4.cell? ⟨w.heap.size + 1, 1, none⟩ = some (.int .i64 t) := (by rw [Lib.cell_of_heap hh1]; rfl); clear hh1; have HH2_4 := Lib.hid hh2; have lt2 := heap_lt hh2; clear hh2; have HH3_4 := Lib.hid hh3; have lt3 := heap_lt hh3; clear hh3; have sz4 := hbw4.size; have HW4 := Lib.hid hbw4))
  go_ret
  exact ⟨rfl, by first | exact HW4.out | (go_grown; done)⟩
set_option maxRecDepth 100000 in
set_option maxHeartbeats 4000000 in
theorem rord_ef (m s n t : Int) (u v : Nat) (w : World) (H1 : Hid (∀ w, Calls Tryd.prog 23 #[.agg #[.int .i64 m, .int .i64 s]] w fun e w' => e = .returned (.tuple #[.agg (rowV u), .bool false]) ∧ Below w.heap.size w w')) (H2 : Hid (∀ w, Calls Tryd.prog 23 #[.agg #[.int .i64 n, .int .i64 t]] w fun e w' => e = .returned (.tuple #[.agg (rowV v), .bool false]) ∧ Below w.heap.size w w'))
    (hq : ∀ w, (binOp .eql 23 (.agg #[.int .i64 m, .int .i64 s]) (.agg #[.int .i64 n, .int .i64 t])).run Tryd.prog w = .ok (.bool true) w) :
    Calls Tryd.prog 29 #[.agg #[.int .i64 m, .int .i64 s], .agg #[.int .i64 n, .int .i64 t]] w fun e w' => e = .returned (.int .i64 0) ∧ Below w.heap.size w w' := by
  go_enter Tryd.func29, Tryd.ntmps29
  go_wp2_with fail
  refine (H1.out _).mono ?_; rintro e w1 ⟨rfl, hb⟩
  have hh0 : w1.heap[w.heap.size]? = some (.cells #[.int .i64 m, .int .i64 s] 23 (0, 0)) := (hb.block _ (by first | omega | (simp; done) | (simp; omega))).trans (heap_old (o' := (.cells #[.int .i64 n, .int .i64 t] 23 (0, 0))) (heap_new _ _ _ (by first | rfl | simp)))
  have hh1 : w1.heap[w.heap.size + 1]? = some (.cells #[.int .i64 n, .int .i64 t] 23 (0, 0)) := (hb.block _ (by first | omega | (simp; done) | (simp; omega))).trans (heap_new _ _ _ (by first | rfl | simp))
  have hbw1 : Below w.heap.size w w1 := (show Below w.heap.size w _ by first | exact Below.refl _ _ | (go_grown; done)).trans (hb.mono (by first | omega | (simp; done) | (simp; omega)))
  clear hb
  have HH0_1 := Lib.hid hh0
  have lt0 := heap_lt hh0
  have c0_0 : w1.cell? ⟨w.heap.size, 0, none⟩ = some (.int .i64 m) := by rw [Lib.cell_of_heap hh0]; rfl
  have c0_1 : w1.cell? ⟨w.heap.size, 1, none⟩ = some (.int .i64 s) := by rw [Lib.cell_of_heap hh0]; rfl
  clear hh0
  have HH1_1 := Lib.hid hh1
  have lt1 := heap_lt hh1
  have c1_0 : w1.cell? ⟨w.heap.size + 1, 0, none⟩ = some (.int .i64 n) := by rw [Lib.cell_of_heap hh1]; rfl
  have c1_1 : w1.cell? ⟨w.heap.size + 1, 1, none⟩ = some (.int .i64 t) := by rw [Lib.cell_of_heap hh1]; rfl
  clear hh1
  have sz1 := hbw1.size
  have HW1 := Lib.hid hbw1
  have HZ2 : Hid ((w1.alloc (.cells #[.int .i64 0, .int .i64 0, .int .i64 0, .int .i64 0, .int .i64 0, .int .i64 0, .int .i64 0, .int .i64 0, .int .i64 0, .int .i64 0, .int .i64 0, .int .i64 0, .int .i64 0, .int .i64 0, .int .i64 0, .int .i64 0, .int .i64 0, .int .i64 0, .int .i64 0, .int .i64 0, .int .i64 0, .int .i64 0, .int .i64 0, .int .i64 0, .int .i64 0, .int .i64 0, .int .i64 0, .int .i64 0, .int .i64 0, .int .i64 0, .int .i64 0, .int .i64 0, .int .i64 0, .int .i64 0, .int .i64 0, .int .i64 0, .int .i64 0, .int .i64 0, .int .i64 0, .int .i64 0] 51)).heap[w1.heap.size]? = some (.cells (rowF (fun _ => 0)) 51 (0, 0))) := Lib.hid (by rw [← rowF_zero]; exact hnew _ _ _ rfl)
  go_wp2_with (first | (refine row_store rfl 51 _ _ rfl w1.heap.size (rowV u) rfl rfl 51 (rowF (fun _ => 0)) HZ2.out (info40V _) (by rw [rowF_size, rowV_size]) (rowV_one _) ?_; intro w2 hnw hoth hsz hbel; have hbw2 : Below w.heap.size w w2 := hbel _ _ ((HW1.out).alloc (by omega) _) (by omega); have hh0 : w2.heap[w.heap.size]? = some (.cells #[.int .i64 m, .int .i64 s] 23 (0, 0)) := (hoth _ (Nat.ne_of_lt (heap_lt HH0_1.out))).trans (hold HH0_1.out); have hh1 : w2.heap[w.heap.size + 1]? = some (.cells #[.int .i64 n, .int .i64 t] 23 (0, 0)) := (hoth _ (Nat.ne_of_lt (heap_lt HH1_1.out))).trans (hold HH1_1.out); have hh2 : w2.heap[w1.heap.size]? = some (.cells (rowV u) 51 (0, 0)) := hnw; clear lt0 c0_0 c0_1 lt1 c1_0 c1_1 hbw1 hnw hoth hsz hbel; have HH0_2 := Lib.hid hh0; have lt0 := heap_lt hh0; have c0_0 : w2.cell? ⟨w.heap.size, 0, none⟩ = some (.int .i64 m) := (by rw [Lib.cell_of_heap hh0]; rfl); have c0_1 : w2.cell? ⟨w.heap.size, 1, none⟩ = some (.int .i64 s) := (by rw [Lib.cell_of_heap hh0]; rfl); clear hh0; have HH1_2 := Lib.hid hh1; have lt1 := heap_lt hh1; have c1_0 : w2.cell? ⟨w.heap.size + 1, 0, none⟩ = some (.int .i64 n) := (by rw [Lib.cell_of_heap hh1]; rfl); have c1_1 : w2.cell? ⟨w.heap.size + 1, 1, none⟩ = some (.int .i64 t) := (by rw [Lib.cell_of_heap hh1]; rfl); clear hh1; have HH2_2 := Lib.hid hh2; have lt2 := heap_lt hh2; clear hh2; have sz2 := hbw2.size; have HW2 := Lib.hid hbw2))
  refine (H2.out _).mono ?_; rintro e w3 ⟨rfl, hb⟩
  have hv0 := HH0_2.out
  have hh0 : w3.heap[w.heap.size]? = some (.cells #[.int .i64 m, .int .i64 s] 23 (0, 0)) := (hb.block _ (heap_lt hv0)).trans hv0
  clear hv0
  have hv1 := HH1_2.out
  have hh1 : w3.heap[w.heap.size + 1]? = some (.cells #[.int .i64 n, .int .i64 t] 23 (0, 0)) := (hb.block _ (heap_lt hv1)).trans hv1
  clear hv1
  have hv2 := HH2_2.out
  have hh2 : w3.heap[w1.heap.size]? = some (.cells (rowV u) 51 (0, 0)) := (hb.block _ (heap_lt hv2)).trans hv2
  clear hv2
  have hbw3 : Below w.heap.size w w3 := (show Below w.heap.size w _ by first | exact HW2.out.trans ⟨rfl, rfl, rfl, Nat.le_refl _, fun _ _ => rfl⟩ | exact HW2.out | (go_grown; done)).trans (hb.mono (by first | omega | (simp; done) | (simp; omega)))
  clear hb lt0 c0_0 c0_1 lt1 c1_0 c1_1 lt2 hbw2
  have HH0_3 := Lib.hid hh0
  have lt0 := heap_lt hh0
  have c0_0 : w3.cell? ⟨w.heap.size, 0, none⟩ = some (.int .i64 m) := by rw [Lib.cell_of_heap hh0]; rfl
  have c0_1 : w3.cell? ⟨w.heap.size, 1, none⟩ = some (.int .i64 s) := by rw [Lib.cell_of_heap hh0]; rfl
  clear hh0
  have HH1_3 := Lib.hid hh1
  have lt1 := heap_lt hh1
  have c1_0 : w3.cell? ⟨w.heap.size + 1, 0, none⟩ = some (.int .i64 n) := by rw [Lib.cell_of_heap hh1]; rfl
  have c1_1 : w3.cell? ⟨w.heap.size + 1, 1, none⟩ = some (.int .i64 t) := by rw [Lib.cell_of_heap hh1]; rfl
  clear hh1
  have HH2_3 := Lib.hid hh2
  have lt2 := heap_lt hh2
  clear hh2
  have sz3 := hbw3.size
  have HW3 := Lib.hid hbw3
  have HZ4 : Hid ((w3.alloc (.cells #[.int .i64 0, .int .i64 0, .int .i64 0, .int .i64 0, .int .i64 0, .int .i64 0, .int .i64 0, .int .i64 0, .int .i64 0, .int .i64 0, .int .i64 0, .int .i64 0, .int .i64 0, .int .i64 0, .int .i64 0, .int .i64 0, .int .i64 0, .int .i64 0, .int .i64 0, .int .i64 0, .int .i64 0, .int .i64 0, .int .i64 0, .int .i64 0, .int .i64 0, .int .i64 0, .int .i64 0, .int .i64 0, .int .i64 0, .int .i64 0, .int .i64 0, .int .i64 0, .int .i64 0, .int .i64 0, .int .i64 0, .int .i64 0, .int .i64 0, .int .i64 0, .int .i64 0, .int .i64 0] 51)).heap[w3.heap.size]? = some (.cells (rowF (fun _ => 0)) 51 (0, 0))) := Lib.hid (by rw [← rowF_zero]; exact hnew _ _ _ rfl)
  go_wp2_with (first | (refine row_store rfl 51 _ _ rfl w3.heap.size (rowV v) rfl rfl 51 (rowF (fun _ => 0)) HZ4.out (info40V _) (by rw [rowF_size, rowV_size]) (rowV_one _) ?_; intro w4 hnw hoth hsz hbel; have hbw4 : Below w.heap.size w w4 := hbel _ _ ((HW3.out).alloc (by omega) _) (by omega); have hh0 : w4.heap[w.heap.size]? = some (.cells #[.int .i64 m, .int .i64 s] 23 (0, 0)) := (hoth _ (Nat.ne_of_lt (heap_lt HH0_3.out))).trans (hold HH0_3.out); have hh1 : w4.heap[w.heap.size + 1]? = some (.cells #[.int .i64 n, .int .i64 t] 23 (0, 0)) := (hoth _ (Nat.ne_of_lt (heap_lt HH1_3.out))).trans (hold HH1_3.out); have hh2 : w4.heap[w1.heap.size]? = some (.cells (rowV u) 51 (0, 0)) := (hoth _ (Nat.ne_of_lt (heap_lt HH2_3.out))).trans (hold HH2_3.out); have hh3 : w4.heap[w3.heap.size]? = some (.cells (rowV v) 51 (0, 0)) := hnw; clear lt0 c0_0 c0_1 lt1 c1_0 c1_1 lt2 hbw3 hnw hoth hsz hbel; have HH0_4 := Lib.hid hh0; have lt0 := heap_lt hh0; have c0_0 : w4.cell? ⟨w.heap.size, 0, none⟩ = some (.int .i64 m) := (by rw [Lib.cell_of_heap hh0]; rfl); have c0_1 : w4.cell? ⟨w.heap.size, 1, none⟩ = some (.int .i64 s) := (by rw [Lib.cell_of_heap hh0]; rfl); clear hh0; have HH1_4 := Lib.hid hh1; have lt1 := heap_lt hh1; have c1_0 : w4.cell? ⟨w.heap.size + 1, 0, none⟩ = some (.int .i64 n) := (by rw [Lib.cell_of_heap hh1]; rfl); have c1_1 : w4.cell? ⟨w.heap.size + 1, 1, none⟩ = some (.int .i64 t) := (by rw [Lib.cell_of_heap hh1]; rfl); clear hh1; have HH2_4 := Lib.hid hh2; have lt2 := heap_lt hh2; clear hh2; have HH3_4 := Lib.hid hh3; have lt3 := heap_lt hh3; clear hh3; have sz4 := hbw4.size; have HW4 := Lib.hid hbw4))
  go_ret
  exact ⟨rfl, by first | exact HW4.out | (go_grown; done)⟩
set_option maxRecDepth 100000 in
set_option maxHeartbeats 4000000 in
theorem rord_tf (m s n t : Int) (u v : Nat) (w : World) (H1 : Hid (∀ w, Calls Tryd.prog 23 #[.agg #[.int .i64 m, .int .i64 s]] w fun e w' => e = .returned (.tuple #[.agg (rowV u), .bool false]) ∧ Below w.heap.size w w')) (H2 : Hid (∀ w, Calls Tryd.prog 23 #[.agg #[.int .i64 n, .int .i64 t]] w fun e w' => e = .returned (.tuple #[.agg (rowV v), .bool false]) ∧ Below w.heap.size w w')) (H3 : Hid (∀ w, Calls Tryd.prog 24 #[.agg (rowV u), .agg (rowV v)] w fun e w' => e = .returned (.bool true) ∧ Below w.heap.size w w'))
    (hq : ∀ w, (binOp .eql 23 (.agg #[.int .i64 m, .int .i64 s]) (.agg #[.int .i64 n, .int .i64 t])).run Tryd.prog w = .ok (.bool false) w) :
    Calls Tryd.prog 29 #[.agg #[.int .i64 m, .int .i64 s], .agg #[.int .i64 n, .int .i64 t]] w fun e w' => e = .returned (.int .i64 (-1)) ∧ Below w.heap.size w w' := by
  go_enter Tryd.func29, Tryd.ntmps29
  go_wp2_with fail
  refine (H1.out _).mono ?_; rintro e w1 ⟨rfl, hb⟩
  have hh0 : w1.heap[w.heap.size]? = some (.cells #[.int .i64 m, .int .i64 s] 23 (0, 0)) := (hb.block _ (by first | omega | (simp; done) | (simp; omega))).trans (heap_old (o' := (.cells #[.int .i64 n, .int .i64 t] 23 (0, 0))) (heap_new _ _ _ (by first | rfl | simp)))
  have hh1 : w1.heap[w.heap.size + 1]? = some (.cells #[.int .i64 n, .int .i64 t] 23 (0, 0)) := (hb.block _ (by first | omega | (simp; done) | (simp; omega))).trans (heap_new _ _ _ (by first | rfl | simp))
  have hbw1 : Below w.heap.size w w1 := (show Below w.heap.size w _ by first | exact Below.refl _ _ | (go_grown; done)).trans (hb.mono (by first | omega | (simp; done) | (simp; omega)))
  clear hb
  have HH0_1 := Lib.hid hh0
  have lt0 := heap_lt hh0
  have c0_0 : w1.cell? ⟨w.heap.size, 0, none⟩ = some (.int .i64 m) := by rw [Lib.cell_of_heap hh0]; rfl
  have c0_1 : w1.cell? ⟨w.heap.size, 1, none⟩ = some (.int .i64 s) := by rw [Lib.cell_of_heap hh0]; rfl
  clear hh0
  have HH1_1 := Lib.hid hh1
  have lt1 := heap_lt hh1
  have c1_0 : w1.cell? ⟨w.heap.size + 1, 0, none⟩ = some (.int .i64 n) := by rw [Lib.cell_of_heap hh1]; rfl
  have c1_1 : w1.cell? ⟨w.heap.size + 1, 1, none⟩ = some (.int .i64 t) := by rw [Lib.cell_of_heap hh1]; rfl
  clear hh1
  have sz1 := hbw1.size
  have HW1 := Lib.hid hbw1
  have HZ2 : Hid ((w1.alloc (.cells #[.int .i64 0, .int .i64 0, .int .i64 0, .int .i64 0, .int .i64 0, .int .i64 0, .int .i64 0, .int .i64 0, .int .i64 0, .int .i64 0, .int .i64 0, .int .i64 0, .int .i64 0, .int .i64 0, .int .i64 0, .int .i64 0, .int .i64 0, .int .i64 0, .int .i64 0, .int .i64 0, .int .i64 0, .int .i64 0, .int .i64 0, .int .i64 0, .int .i64 0, .int .i64 0, .int .i64 0, .int .i64 0, .int .i64 0, .int .i64 0, .int .i64 0, .int .i64 0, .int .i64 0, .int .i64 0, .int .i64 0, .int .i64 0, .int .i64 0, .int .i64 0, .int .i64 0, .int .i64 0] 51)).heap[w1.heap.size]? = some (.cells (rowF (fun _ => 0)) 51 (0, 0))) := Lib.hid (by rw [← rowF_zero]; exact hnew _ _ _ rfl)
  go_wp2_with (first | (refine row_store rfl 51 _ _ rfl w1.heap.size (rowV u) rfl rfl 51 (rowF (fun _ => 0)) HZ2.out (info40V _) (by rw [rowF_size, rowV_size]) (rowV_one _) ?_; intro w2 hnw hoth hsz hbel; have hbw2 : Below w.heap.size w w2 := hbel _ _ ((HW1.out).alloc (by omega) _) (by omega); have hh0 : w2.heap[w.heap.size]? = some (.cells #[.int .i64 m, .int .i64 s] 23 (0, 0)) := (hoth _ (Nat.ne_of_lt (heap_lt HH0_1.out))).trans (hold HH0_1.out); have hh1 : w2.heap[w.heap.size + 1]? = some (.cells #[.int .i64 n, .int .i64 t] 23 (0, 0)) := (hoth _ (Nat.ne_of_lt (heap_lt HH1_1.out))).trans (hold HH1_1.out); have hh2 : w2.heap[w1.heap.size]? = some (.cells (rowV u) 51 (0, 0)) := hnw; clear lt0 c0_0 c0_1 lt1 c1_0 c1_1 hbw1 hnw hoth hsz hbel; have HH0_2 := Lib.hid hh0; have lt0 := heap_lt hh0; have c0_0 : w2.cell? ⟨w.heap.size, 0, none⟩ = some (.int .i64 m) := (by rw [Lib.cell_of_heap hh0]; rfl); have c0_1 : w2.cell? ⟨w.heap.size, 1, none⟩ = some (.int .i64 s) := (by rw [Lib.cell_of_heap hh0]; rfl); clear hh0; have HH1_2 := Lib.hid hh1; have lt1 := heap_lt hh1; have c1_0 : w2.cell? ⟨w.heap.size + 1, 0, none⟩ = some (.int .i64 n) := (by rw [Lib.cell_of_heap hh1]; rfl); have c1_1 : w2.cell? ⟨w.heap.size + 1, 1, none⟩ = some (.int .i64 t) := (by rw [Lib.cell_of_heap hh1]; rfl); clear hh1; have HH2_2 := Lib.hid hh2; have lt2 := heap_lt hh2; clear hh2; have sz2 := hbw2.size; have HW2 := Lib.hid hbw2))
  refine (H2.out _).mono ?_; rintro e w3 ⟨rfl, hb⟩
  have hv0 := HH0_2.out
  have hh0 : w3.heap[w.heap.size]? = some (.cells #[.int .i64 m, .int .i64 s] 23 (0, 0)) := (hb.block _ (heap_lt hv0)).trans hv0
  clear hv0
  have hv1 := HH1_2.out
  have hh1 : w3.heap[w.heap.size + 1]? = some (.cells #[.int .i64 n, .int .i64 t] 23 (0, 0)) := (hb.block _ (heap_lt hv1)).trans hv1
  clear hv1
  have hv2 := HH2_2.out
  have hh2 : w3.heap[w1.heap.size]? = some (.cells (rowV u) 51 (0, 0)) := (hb.block _ (heap_lt hv2)).trans hv2
  clear hv2
  have hbw3 : Below w.heap.size w w3 := (show Below w.heap.size w _ by first | exact HW2.out.trans ⟨rfl, rfl, rfl, Nat.le_refl _, fun _ _ => rfl⟩ | exact HW2.out | (go_grown; done)).trans (hb.mono (by first | omega | (simp; done) | (simp; omega)))
  clear hb lt0 c0_0 c0_1 lt1 c1_0 c1_1 lt2 hbw2
  have HH0_3 := Lib.hid hh0
  have lt0 := heap_lt hh0
  have c0_0 : w3.cell? ⟨w.heap.size, 0, none⟩ = some (.int .i64 m) := by rw [Lib.cell_of_heap hh0]; rfl
  have c0_1 : w3.cell? ⟨w.heap.size, 1, none⟩ = some (.int .i64 s) := by rw [Lib.cell_of_heap hh0]; rfl
  clear hh0
  have HH1_3 := Lib.hid hh1
  have lt1 := heap_lt hh1
  have c1_0 : w3.cell? ⟨w.heap.size + 1, 0, none⟩ = some (.int .i64 n) := by rw [Lib.cell_of_heap hh1]; rfl
  have c1_1 : w3.cell? ⟨w.heap.size + 1, 1, none⟩ = some (.int .i64 t) := by rw [Lib.cell_of_heap hh1]; rfl
  clear hh1
  have HH2_3 := Lib.hid hh2
  have lt2 := heap_lt hh2
  clear hh2
  have sz3 := hbw3.size
  have HW3 := Lib.hid hbw3
  have HZ4 : Hid ((w3.alloc (.cells #[.int .i64 0, .int .i64 0, .int .i64 0, .int .i64 0, .int .i64 0, .int .i64 0, .int .i64 0, .int .i64 0, .int .i64 0, .int .i64 0, .int .i64 0, .int .i64 0, .int .i64 0, .int .i64 0, .int .i64 0, .int .i64 0, .int .i64 0, .int .i64 0, .int .i64 0, .int .i64 0, .int .i64 0, .int .i64 0, .int .i64 0, .int .i64 0, .int .i64 0, .int .i64 0, .int .i64 0, .int .i64 0, .int .i64 0, .int .i64 0, .int .i64 0, .int .i64 0, .int .i64 0, .int .i64 0, .int .i64 0, .int .i64 0, .int .i64 0, .int .i64 0, .int .i64 0, .int .i64 0] 51)).heap[w3.heap.size]? = some (.cells (rowF (fun _ => 0)) 51 (0, 0))) := Lib.hid (by rw [← rowF_zero]; exact hnew _ _ _ rfl)
  go_wp2_with (first | (refine row_store rfl 51 _ _ rfl w3.heap.size (rowV v) rfl rfl 51 (rowF (fun _ => 0)) HZ4.out (info40V _) (by rw [rowF_size, rowV_size]) (rowV_one _) ?_; intro w4 hnw hoth hsz hbel; have hbw4 : Below w.heap.size w w4 := hbel _ _ ((HW3.out).alloc (by omega) _) (by omega); have hh0 : w4.heap[w.heap.size]? = some (.cells #[.int .i64 m, .int .i64 s] 23 (0, 0)) := (hoth _ (Nat.ne_of_lt (heap_lt HH0_3.out))).trans (hold HH0_3.out); have hh1 : w4.heap[w.heap.size + 1]? = some (.cells #[.int .i64 n, .int .i64 t] 23 (0, 0)) := (hoth _ (Nat.ne_of_lt (heap_lt HH1_3.out))).trans (hold HH1_3.out); have hh2 : w4.heap[w1.heap.size]? = some (.cells (rowV u) 51 (0, 0)) := (hoth _ (Nat.ne_of_lt (heap_lt HH2_3.out))).trans (hold HH2_3.out); have hh3 : w4.heap[w3.heap.size]? = some (.cells (rowV v) 51 (0, 0)) := hnw; clear lt0 c0_0 c0_1 lt1 c1_0 c1_1 lt2 hbw3 hnw hoth hsz hbel; have HH0_4 := Lib.hid hh0; have lt0 := heap_lt hh0; have c0_0 : w4.cell? ⟨w.heap.size, 0, none⟩ = some (.int .i64 m) := (by rw [Lib.cell_of_heap hh0]; rfl); have c0_1 : w4.cell? ⟨w.heap.size, 1, none⟩ = some (.int .i64 s) := (by rw [Lib.cell_of_heap hh0]; rfl); clear hh0; have HH1_4 := Lib.hid hh1; have lt1 := heap_lt hh1; have c1_0 : w4.cell? ⟨w.heap.size + 1, 0, none⟩ = some (.int .i64 n) := (by rw [Lib.cell_of_heap hh1]; rfl); have c1_1 : w4.cell? ⟨w.heap.size + 1, 1, none⟩ = some (.int .i64 t) := (by rw [Lib.cell_of_heap hh1]; rfl); clear hh1; have HH2_4 := Lib.hid hh2; have lt2 := heap_lt hh2; clear hh2; have HH3_4 := Lib.hid hh3; have lt3 := heap_lt hh3; clear hh3; have sz4 := hbw4.size; have HW4 := Lib.hid hbw4) | (refine wpList_load_row rfl 51 _ rfl (w1.heap.size) rfl 51 (rowV u) (0, 0) _ HH2_4.out Tryd.underlying51 rfl (info40V _) ?_) | (refine wpList_load_row rfl 51 _ rfl (w3.heap.size) rfl 51 (rowV v) (0, 0) _ HH3_4.out Tryd.underlying51 rfl (info40V _) ?_))
  refine (H3.out _).mono ?_; rintro e w5 ⟨rfl, hb⟩
  have hv0 := HH0_4.out
  have hh0 : w5.heap[w.heap.size]? = some (.cells #[.int .i64 m, .int .i64 s] 23 (0, 0)) := (hb.block _ (heap_lt hv0)).trans hv0
  clear hv0
  have hv1 := HH1_4.out
  have hh1 : w5.heap[w.heap.size + 1]? = some (.cells #[.int .i64 n, .int .i64 t] 23 (0, 0)) := (hb.block _ (heap_lt hv1)).trans hv1
  clear hv1
  have hv2 := HH2_4.out
  have hh2 : w5.heap[w1.heap.size]? = some (.cells (rowV u) 51 (0, 0)) := (hb.block _ (heap_lt hv2)).trans hv2
  clear hv2
  have hv3 := HH3_4.out
  have hh3 : w5.heap[w3.heap.size]? = some (.cells (rowV v) 51 (0, 0)) := (hb.block _ (heap_lt hv3)).trans hv3
  clear hv3
  have hbw5 : Below w.heap.size w w5 := (show Below w.heap.size w _ by first | exact HW4.out.trans ⟨rfl, rfl, rfl, Nat.le_refl _, fun _ _ => rfl⟩ | exact HW4.out | (go_grown; done)).trans (hb.mono (by first | omega | (simp; done) | (simp; omega)))
  clear hb lt0 c0_0 c0_1 lt1 c1_0 c1_1 lt2 lt3 hbw4
  have HH0_5 := Lib.hid hh0
  have lt0 := heap_lt hh0
  have c0_0 : w5.cell? ⟨w.heap.size, 0, none⟩ = some (.int .i64 m) := by rw [Lib.cell_of_heap hh0]; rfl
  have c0_1 : w5.cell? ⟨w.heap.size, 1, none⟩ = some (.int .i64 s) := by rw [Lib.cell_of_heap hh0]; rfl
  clear hh0
  have HH1_5 := Lib.hid hh1
  have lt1 := heap_lt hh1
  have c1_0 : w5.cell? ⟨w.heap.size + 1, 0, none⟩ = some (.int .i64 n) := by rw [Lib.cell_of_heap hh1]; rfl
  have c1_1 : w5.cell? ⟨w.heap.size + 1, 1, none⟩ = some (.int .i64 t) := by rw [Lib.cell_of_heap hh1]; rfl
  clear hh1
  have HH2_5 := Lib.hid hh2
  have lt2 := heap_lt hh2
  clear hh2
  have HH3_5 := Lib.hid hh3
  have lt3 := heap_lt hh3
  clear hh3
  have sz5 := hbw5.size
  have HW5 := Lib.hid hbw5
  go_wp2_with fail
  go_ret
  exact ⟨rfl, by first | exact HW5.out | (go_grown; done)⟩
set_option maxRecDepth 100000 in
set_option maxHeartbeats 4000000 in
theorem rord_ff (m s n t : Int) (u v : Nat) (w : World) (H1 : Hid (∀ w, Calls Tryd.prog 23 #[.agg #[.int .i64 m, .int .i64 s]] w fun e w' => e = .returned (.tuple #[.agg (rowV u), .bool false]) ∧ Below w.heap.size w w')) (H2 : Hid (∀ w, Calls Tryd.prog 23 #[.agg #[.int .i64 n, .int .i64 t]] w fun e w' => e = .returned (.tuple #[.agg (rowV v), .bool false]) ∧ Below w.heap.size w w')) (H3 : Hid (∀ w, Calls Tryd.prog 24 #[.agg (rowV u), .agg (rowV v)] w fun e w' => e = .returned (.bool false) ∧ Below w.heap.size w w'))
    (hq : ∀ w, (binOp .eql 23 (.agg #[.int .i64 m, .int .i64 s]) (.agg #[.int .i64 n, .int .i64 t])).run Tryd.prog w = .ok (.bool false) w) :
    Calls Tryd.prog 29 #[.agg #[.int .i64 m, .int .i64 s], .agg #[.int .i64 n, .int .i64 t]] w fun e w' => e = .returned (.int .i64 1) ∧ Below w.heap.size w w' := by
  go_enter Tryd.func29, Tryd.ntmps29
  go_wp2_with fail
  refine (H1.out _).mono ?_; rintro e w1 ⟨rfl, hb⟩
  have hh0 : w1.heap[w.heap.size]? = some (.cells #[.int .i64 m, .int .i64 s] 23 (0, 0)) := (hb.block _ (by first | omega | (simp; done) | (simp; omega))).trans (heap_old (o' := (.cells #[.int .i64 n, .int .i64 t] 23 (0, 0))) (heap_new _ _ _ (by first | rfl | simp)))
  have hh1 : w1.heap[w.heap.size + 1]? = some (.cells #[.int .i64 n, .int .i64 t] 23 (0, 0)) := (hb.block _ (by first | omega | (simp; done) | (simp; omega))).trans (heap_new _ _ _ (by first | rfl | simp))
  have hbw1 : Below w.heap.size w w1 := (show Below w.heap.size w _ by first | exact Below.refl _ _ | (go_grown; done)).trans (hb.mono (by first | omega | (simp; done) | (simp; omega)))
  clear hb
  have HH0_1 := Lib.hid hh0
  have lt0 := heap_lt hh0
  have c0_0 : w1.cell? ⟨w.heap.size, 0, none⟩ = some (.int .i64 m) := by rw [Lib.cell_of_heap hh0]; rfl
  have c0_1 : w1.cell? ⟨w.heap.size, 1, none⟩ = some (.int .i64 s) := by rw [Lib.cell_of_heap hh0]; rfl
  clear hh0
  have HH1_1 := Lib.hid hh1
  have lt1 := heap_lt hh1
  have c1_0 : w1.cell? ⟨w.heap.size + 1, 0, none⟩ = some (.int .i64 n) := by rw [Lib.cell_of_heap hh1]; rfl
  have c1_1 : w1.cell? ⟨w.heap.size + 1, 1, none⟩ = some (.int .i64 t) := by rw [Lib.cell_of_heap hh1]; rfl
  clear hh1
  have sz1 := hbw1.size
  have HW1 := Lib.hid hbw1
  have HZ2 : Hid ((w1.alloc (.cells #[.int .i64 0, .int .i64 0, .int .i64 0, .int .i64 0, .int .i64 0, .int .i64 0, .int .i64 0, .int .i64 0, .int .i64 0, .int .i64 0, .int .i64 0, .int .i64 0, .int .i64 0, .int .i64 0, .int .i64 0, .int .i64 0, .int .i64 0, .int .i64 0, .int .i64 0, .int .i64 0, .int .i64 0, .int .i64 0, .int .i64 0, .int .i64 0, .int .i64 0, .int .i64 0, .int .i64 0, .int .i64 0, .int .i64 0, .int .i64 0, .int .i64 0, .int .i64 0, .int .i64 0, .int .i64 0, .int .i64 0, .int .i64 0, .int .i64 0, .int .i64 0, .int .i64 0, .int .i64 0] 51)).heap[w1.heap.size]? = some (.cells (rowF (fun _ => 0)) 51 (0, 0))) := Lib.hid (by rw [← rowF_zero]; exact hnew _ _ _ rfl)
  go_wp2_with (first | (refine row_store rfl 51 _ _ rfl w1.heap.size (rowV u) rfl rfl 51 (rowF (fun _ => 0)) HZ2.out (info40V _) (by rw [rowF_size, rowV_size]) (rowV_one _) ?_; intro w2 hnw hoth hsz hbel; have hbw2 : Below w.heap.size w w2 := hbel _ _ ((HW1.out).alloc (by omega) _) (by omega); have hh0 : w2.heap[w.heap.size]? = some (.cells #[.int .i64 m, .int .i64 s] 23 (0, 0)) := (hoth _ (Nat.ne_of_lt (heap_lt HH0_1.out))).trans (hold HH0_1.out); have hh1 : w2.heap[w.heap.size + 1]? = some (.cells #[.int .i64 n, .int .i64 t] 23 (0, 0)) := (hoth _ (Nat.ne_of_lt (heap_lt HH1_1.out))).trans (hold HH1_1.out); have hh2 : w2.heap[w1.heap.size]? = some (.cells (rowV u) 51 (0, 0)) := hnw; clear lt0 c0_0 c0_1 lt1 c1_0 c1_1 hbw1 hnw hoth hsz hbel; have HH0_2 := Lib.hid hh0; have lt0 := heap_lt hh0; have c0_0 : w2.cell? ⟨w.heap.size, 0, none⟩ = some (.int .i64 m) := (by rw [Lib.cell_of_heap hh0]; rfl); have c0_1 : w2.cell? ⟨w.heap.size, 1, none⟩ = some (.int .i64 s) := (by rw [Lib.cell_of_heap hh0]; rfl); clear hh0; have HH1_2 := Lib.hid hh1; have lt1 := heap_lt hh1; have c1_0 : w2.cell? ⟨w.heap.size + 1, 0, none⟩ = some (.int .i64 n) := (by rw [Lib.cell_of_heap hh1]; rfl); have c1_1 : w2.cell? ⟨w.heap.size + 1, 1, none⟩ = some (.int .i64 t) := (by rw [Lib.cell_of_heap hh1]; rfl); clear hh1; have HH2_2 := Lib.hid hh2; have lt2 := heap_lt hh2; clear hh2; have sz2 := hbw2.size; have HW2 := Lib.hid hbw2))
  refine (H2.out _).mono ?_; rintro e w3 ⟨rfl, hb⟩
  have hv0 := HH0_2.out
  have hh0 : w3.heap[w.heap.size]? = some (.cells #[.int .i64 m, .int .i64 s] 23 (0, 0)) := (hb.block _ (heap_lt hv0)).trans hv0
  clear hv0
  have hv1 := HH1_2.out
  have hh1 : w3.heap[w.heap.size + 1]? = some (.cells #[.int .i64 n, .int .i64 t] 23 (0, 0)) := (hb.block _ (heap_lt hv1)).trans hv1
  clear hv1
  have hv2 := HH2_2.out
  have hh2 : w3.heap[w1.heap.size]? = some (.cells (rowV u) 51 (0, 0)) := (hb.block _ (heap_lt hv2)).trans hv2
  clear hv2
  have hbw3 : Below w.heap.size w w3 := (show Below w.heap.size w _ by first | exact HW2.out.trans ⟨rfl, rfl, rfl, Nat.le_refl _, fun _ _ => rfl⟩ | exact HW2.out | (go_grown; done)).trans (hb.mono (by first | omega | (simp; done) | (simp; omega)))
  clear hb lt0 c0_0 c0_1 lt1 c1_0 c1_1 lt2 hbw2
  have HH0_3 := Lib.hid hh0
  have lt0 := heap_lt hh0
  have c0_0 : w3.cell? ⟨w.heap.size, 0, none⟩ = some (.int .i64 m) := by rw [Lib.cell_of_heap hh0]; rfl
  have c0_1 : w3.cell? ⟨w.heap.size, 1, none⟩ = some (.int .i64 s) := by rw [Lib.cell_of_heap hh0]; rfl
  clear hh0
  have HH1_3 := Lib.hid hh1
  have lt1 := heap_lt hh1
  have c1_0 : w3.cell? ⟨w.heap.size + 1, 0, none⟩ = some (.int .i64 n) := by rw [Lib.cell_of_heap hh1]; rfl
  have c1_1 : w3.cell? ⟨w.heap.size + 1, 1, none⟩ = some (.int .i64 t) := by rw [Lib.cell_of_heap hh1]; rfl
  clear hh1
  have HH2_3 := Lib.hid hh2
  have lt2 := heap_lt hh2
  clear hh2
  have sz3 := hbw3.size
  have HW3 := Lib.hid hbw3
  have HZ4 : Hid ((w3.alloc (.cells #[.int .i64 0, .int .i64 0, .int .i64 0, .int .i64 0, .int .i64 0, .int .i64 0, .int .i64 0, .int .i64 0, .int .i64 0, .int .i64 0, .int .i64 0, .int .i64 0, .int .i64 0, .int .i64 0, .int .i64 0, .int .i64 0, .int .i64 0, .int .i64 0, .int .i64 0, .int .i64 0, .int .i64 0, .int .i64 0, .int .i64 0, .int .i64 0, .int .i64 0, .int .i64 0, .int .i64 0, .int .i64 0, .int .i64 0, .int .i64 0, .int .i64 0, .int .i64 0, .int .i64 0, .int .i64 0, .int .i64 0, .int .i64 0, .int .i64 0, .int .i64 0, .int .i64 0, .int .i64 0] 51)).heap[w3.heap.size]? = some (.cells (rowF (fun _ => 0)) 51 (0, 0))) := Lib.hid (by rw [← rowF_zero]; exact hnew _ _ _ rfl)
  go_wp2_with (first | (refine row_store rfl 51 _ _ rfl w3.heap.size (rowV v) rfl rfl 51 (rowF (fun _ => 0)) HZ4.out (info40V _) (by rw [rowF_size, rowV_size]) (rowV_one _) ?_; intro w4 hnw hoth hsz hbel; have hbw4 : Below w.heap.size w w4 := hbel _ _ ((HW3.out).alloc (by omega) _) (by omega); have hh0 : w4.heap[w.heap.size]? = some (.cells #[.int .i64 m, .int .i64 s] 23 (0, 0)) := (hoth _ (Nat.ne_of_lt (heap_lt HH0_3.out))).trans (hold HH0_3.out); have hh1 : w4.heap[w.heap.size + 1]? = some (.cells #[.int .i64 n, .int .i64 t] 23 (0, 0)) := (hoth _ (Nat.ne_of_lt (heap_lt HH1_3.out))).trans (hold HH1_3.out); have hh2 : w4.heap[w1.heap.size]? = some (.cells (rowV u) 51 (0, 0)) := (hoth _ (Nat.ne_of_lt (heap_lt HH2_3.out))).trans (hold HH2_3.out); have hh3 : w4.heap[w3.heap.size]? = some (.cells (rowV v) 51 (0, 0)) := hnw; clear lt0 c0_0 c0_1 lt1 c1_0 c1_1 lt2 hbw3 hnw hoth hsz hbel; have HH0_4 := Lib.hid hh0; have lt0 := heap_lt hh0; have c0_0 : w4.cell? ⟨w.heap.size, 0, none⟩ = some (.int .i64 m) := (by rw [Lib.cell_of_heap hh0]; rfl); have c0_1 : w4.cell? ⟨w.heap.size, 1, none⟩ = some (.int .i64 s) := (by rw [Lib.cell_of_heap hh0]; rfl); clear hh0; have HH1_4 := Lib.hid hh1; have lt1 := heap_lt hh1; have c1_0 : w4.cell? ⟨w.heap.size + 1, 0, none⟩ = some (.int .i64 n) := (by rw [Lib.cell_of_heap hh1]; rfl); have c1_1 : w4.cell? ⟨w.heap.size + 1, 1, none⟩ = some (.int .i64 t) := (by rw [Lib.cell_of_heap hh1]; rfl); clear hh1; have HH2_4 := Lib.hid hh2; have lt2 := heap_lt hh2; clear hh2; have HH3_4 := Lib.hid hh3; have lt3 := heap_lt hh3; clear hh3; have sz4 := hbw4.size; have HW4 := Lib.hid hbw4) | (refine wpList_load_row rfl 51 _ rfl (w1.heap.size) rfl 51 (rowV u) (0, 0) _ HH2_4.out Tryd.underlying51 rfl (info40V _) ?_) | (refine wpList_load_row rfl 51 _ rfl (w3.heap.size) rfl 51 (rowV v) (0, 0) _ HH3_4.out Tryd.underlying51 rfl (info40V _) ?_))
  refine (H3.out _).mono ?_; rintro e w5 ⟨rfl, hb⟩
  have hv0 := HH0_4.out
  have hh0 : w5.heap[w.heap.size]? = some (.cells #[.int .i64 m, .int .i64 s] 23 (0, 0)) := (hb.block _ (heap_lt hv0)).trans hv0
  clear hv0
  have hv1 := HH1_4.out
  have hh1 : w5.heap[w.heap.size + 1]? = some (.cells #[.int .i64 n, .int .i64 t] 23 (0, 0)) := (hb.block _ (heap_lt hv1)).trans hv1
  clear hv1
  have hv2 := HH2_4.out
  have hh2 : w5.heap[w1.heap.size]? = some (.cells (rowV u) 51 (0, 0)) := (hb.block _ (heap_lt hv2)).trans hv2
  clear hv2
  have hv3 := HH3_4.out
  have hh3 : w5.heap[w3.heap.size]? = some (.cells (rowV v) 51 (0, 0)) := (hb.block _ (heap_lt hv3)).trans hv3
  clear hv3
  have hbw5 : Below w.heap.size w w5 := (show Below w.heap.size w _ by first | exact HW4.out.trans ⟨rfl, rfl, rfl, Nat.le_refl _, fun _ _ => rfl⟩ | exact HW4.out | (go_grown; done)).trans (hb.mono (by first | omega | (simp; done) | (simp; omega)))
  clear hb lt0 c0_0 c0_1 lt1 c1_0 c1_1 lt2 lt3 hbw4
  have HH0_5 := Lib.hid hh0
  have lt0 := heap_lt hh0
  have c0_0 : w5.cell? ⟨w.heap.size, 0, none⟩ = some (.int .i64 m) := by rw [Lib.cell_of_heap hh0]; rfl
  have c0_1 : w5.cell? ⟨w.heap.size, 1, none⟩ = some (.int .i64 s) := by rw [Lib.cell_of_heap hh0]; rfl
  clear hh0
  have HH1_5 := Lib.hid hh1
  have lt1 := heap_lt hh1
  have c1_0 : w5.cell? ⟨w.heap.size + 1, 0, none⟩ = some (.int .i64 n) := by rw [Lib.cell_of_heap hh1]; rfl
  have c1_1 : w5.cell? ⟨w.heap.size + 1, 1, none⟩ = some (.int .i64 t) := by rw [Lib.cell_of_heap hh1]; rfl
  clear hh1
  have HH2_5 := Lib.hid hh2
  have lt2 := heap_lt hh2
  clear hh2
  have HH3_5 := Lib.hid hh3
  have lt3 := heap_lt hh3
  clear hh3
  have sz5 := hbw5.size
  have HW5 := Lib.hid hbw5
  go_wp2_with fail
  go_ret
  exact ⟨rfl, by first | exact HW5.out | (go_grown; done)⟩
end Go.Proofs.YtgljbhbpjobnbaaDoor
