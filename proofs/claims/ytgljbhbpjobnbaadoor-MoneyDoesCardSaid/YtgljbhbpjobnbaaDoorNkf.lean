/- The walk through the reference's sum of Decimals (provostref14.Add): its ways. -/
import Derived.Test.YtgljbhbpjobnbaaDoorNk
set_option linter.unusedSimpArgs false
set_option linter.unusedVariables false
namespace Go.Proofs.YtgljbhbpjobnbaaDoor
open Go.RowKit
set_option maxRecDepth 100000 in
set_option maxHeartbeats 4000000 in
theorem radd14_ymf (m s n t : Int) (u v z g : Nat) (p : Bool) (w : World) (H1 : Hid (∀ w, Calls Tryd.prog 17 #[.agg #[.int .i64 m, .int .i64 s]] w fun e w' => e = .returned (.bool true) ∧ Below w.heap.size w w')) (H2 : Hid (∀ w, Calls Tryd.prog 17 #[.agg #[.int .i64 n, .int .i64 t]] w fun e w' => e = .returned (.bool true) ∧ Below w.heap.size w w')) (H3 : Hid (∀ w, Calls Tryd.prog 23 #[.agg #[.int .i64 m, .int .i64 s]] w fun e w' => e = .returned (.tuple #[.agg (rowV u), .bool p]) ∧ Below w.heap.size w w')) (H4 : Hid (∀ w, Calls Tryd.prog 23 #[.agg #[.int .i64 n, .int .i64 t]] w fun e w' => e = .returned (.tuple #[.agg (rowV v), .bool true]) ∧ Below w.heap.size w w'))
    (H5 : Hid (∀ w, Calls Tryd.prog 24 #[.agg (rowV u), .agg (rowV v)] w fun e w' => e = .returned (.bool true) ∧ Below w.heap.size w w'))
    (H6 : Hid (∀ w, Calls Tryd.prog 25 #[.agg (rowV v), .agg (rowV u), .bool (!p)] w fun e w' => e = .returned (.agg (rowV z)) ∧ Below w.heap.size w w'))
    (hg : g ≤ 18) (HG : Hid ((∀ j, j < g → dgt z j = 0) ∧ (g = 18 ∨ ¬ dgt z g = 0))) (HZ40 : Hid (z < 10 ^ 40)) (HR : Hid (inR (-(z / 10 ^ g : Nat) : Int) = false)) :
    Calls Tryd.prog 7 #[.agg #[.int .i64 m, .int .i64 s], .agg #[.int .i64 n, .int .i64 t]] w fun e w' => e = .returned (.tuple #[.agg #[.int .i64 0, .int .i64 0], .int .i64 20]) ∧ Below w.heap.size w w' := by
  have HM := Lib.hid (fun a (ha : R a) w => muls_any a 10 ha (by unfold R; omega) w)
  have HAD := Lib.hid (fun a b (ha : R a) (hb : R b) w => adds_any a b ha hb w)
  go_enter Tryd.func7, Tryd.ntmps7
  go_wp2_with fail
  refine (H1.out _).mono ?_; rintro e w1 ⟨rfl, hb⟩
  have hh0 : w1.heap[w.heap.size]? = some (.cells #[.int .i64 m, .int .i64 s] 23 (0, 0)) := (hb.block _ (by first | omega | (simp; done) | (simp; omega))).trans (heap_old (o' := (.cells #[.int .i64 0, .int .i64 0] 23 (0, 0))) (heap_old (o' := (.cells #[.int .i64 n, .int .i64 t] 23 (0, 0))) (heap_new _ _ _ (by first | rfl | simp))))
  have hh1 : w1.heap[w.heap.size + 1]? = some (.cells #[.int .i64 n, .int .i64 t] 23 (0, 0)) := (hb.block _ (by first | omega | (simp; done) | (simp; omega))).trans (heap_old (o' := (.cells #[.int .i64 0, .int .i64 0] 23 (0, 0))) (heap_new _ _ _ (by first | rfl | simp)))
  have hh2 : w1.heap[w.heap.size + 1 + 1]? = some (.cells #[.int .i64 0, .int .i64 0] 23 (0, 0)) := (hb.block _ (by first | omega | (simp; done) | (simp; omega))).trans (heap_new _ _ _ (by first | rfl | simp))
  have hbw1 : Below w.heap.size w w1 := (show Below w.heap.size w _ by first | exact Below.refl _ _ | (go_grown; done)).trans (hb.mono (by first | omega | (simp; done) | (simp; omega)))
  clear hb
  have HH0_1 := Lib.hid hh0
  have lt0 := heap_lt hh0
  have c0_0 : w1.cell? ⟨w.heap.size, 0, none⟩ = some (.int .i64 m) := by rw [Lib.cell_of_heap hh0]; rfl
  have c0_1 : w1.cell? ⟨w.heap.size, 1, none⟩ = some (.int .i64 s) := by rw [Lib.cell_of_heap hh0]; rfl
  clear hh0
  have HH1_1 := Lib.hid hh1
  have lt1 := heap_lt hh1
  have c1_0 : w1.cell? ⟨w.heap.size + 1, 0, none⟩ = some (.int .i64 n) := by rw [Lib.cell_of_heap hh1]; rfl
  have c1_1 : w1.cell? ⟨w.heap.size + 1, 1, none⟩ = some (.int .i64 t) := by rw [Lib.cell_of_heap hh1]; rfl
  clear hh1
  have HH2_1 := Lib.hid hh2
  have lt2 := heap_lt hh2
  have c2_0 : w1.cell? ⟨w.heap.size + 1 + 1, 0, none⟩ = some (.int .i64 0) := by rw [Lib.cell_of_heap hh2]; rfl
  have f2_0 : w1.frozen? ⟨w.heap.size + 1 + 1, 0, none⟩ = false := Lib.frozen_of_heap hh2 0
  have c2_1 : w1.cell? ⟨w.heap.size + 1 + 1, 1, none⟩ = some (.int .i64 0) := by rw [Lib.cell_of_heap hh2]; rfl
  have f2_1 : w1.frozen? ⟨w.heap.size + 1 + 1, 1, none⟩ = false := Lib.frozen_of_heap hh2 1
  clear hh2
  have sz1 := hbw1.size
  have HW1 := Lib.hid hbw1
  go_wp2_with fail
  refine (H2.out _).mono ?_; rintro e w2 ⟨rfl, hb⟩
  have hv0 := HH0_1.out
  have hh0 : w2.heap[w.heap.size]? = some (.cells #[.int .i64 m, .int .i64 s] 23 (0, 0)) := (hb.block _ (heap_lt hv0)).trans hv0
  clear hv0
  have hv1 := HH1_1.out
  have hh1 : w2.heap[w.heap.size + 1]? = some (.cells #[.int .i64 n, .int .i64 t] 23 (0, 0)) := (hb.block _ (heap_lt hv1)).trans hv1
  clear hv1
  have hv2 := HH2_1.out
  have hh2 : w2.heap[w.heap.size + 1 + 1]? = some (.cells #[.int .i64 0, .int .i64 0] 23 (0, 0)) := (hb.block _ (heap_lt hv2)).trans hv2
  clear hv2
  have hbw2 : Below w.heap.size w w2 := (show Below w.heap.size w _ by first | exact HW1.out.trans ⟨rfl, rfl, rfl, Nat.le_refl _, fun _ _ => rfl⟩ | exact HW1.out | (go_grown; done)).trans (hb.mono (by first | omega | (simp; done) | (simp; omega)))
  clear hb lt0 c0_0 c0_1 lt1 c1_0 c1_1 lt2 c2_0 f2_0 c2_1 f2_1 hbw1
  have HH0_2 := Lib.hid hh0
  have lt0 := heap_lt hh0
  have c0_0 : w2.cell? ⟨w.heap.size, 0, none⟩ = some (.int .i64 m) := by rw [Lib.cell_of_heap hh0]; rfl
  have c0_1 : w2.cell? ⟨w.heap.size, 1, none⟩ = some (.int .i64 s) := by rw [Lib.cell_of_heap hh0]; rfl
  clear hh0
  have HH1_2 := Lib.hid hh1
  have lt1 := heap_lt hh1
  have c1_0 : w2.cell? ⟨w.heap.size + 1, 0, none⟩ = some (.int .i64 n) := by rw [Lib.cell_of_heap hh1]; rfl
  have c1_1 : w2.cell? ⟨w.heap.size + 1, 1, none⟩ = some (.int .i64 t) := by rw [Lib.cell_of_heap hh1]; rfl
  clear hh1
  have HH2_2 := Lib.hid hh2
  have lt2 := heap_lt hh2
  have c2_0 : w2.cell? ⟨w.heap.size + 1 + 1, 0, none⟩ = some (.int .i64 0) := by rw [Lib.cell_of_heap hh2]; rfl
  have f2_0 : w2.frozen? ⟨w.heap.size + 1 + 1, 0, none⟩ = false := Lib.frozen_of_heap hh2 0
  have c2_1 : w2.cell? ⟨w.heap.size + 1 + 1, 1, none⟩ = some (.int .i64 0) := by rw [Lib.cell_of_heap hh2]; rfl
  have f2_1 : w2.frozen? ⟨w.heap.size + 1 + 1, 1, none⟩ = false := Lib.frozen_of_heap hh2 1
  clear hh2
  have sz2 := hbw2.size
  have HW2 := Lib.hid hbw2
  go_wp2_with fail
  refine (H3.out _).mono ?_; rintro e w3 ⟨rfl, hb⟩
  have hv0 := HH0_2.out
  have hh0 : w3.heap[w.heap.size]? = some (.cells #[.int .i64 m, .int .i64 s] 23 (0, 0)) := (hb.block _ (heap_lt hv0)).trans hv0
  clear hv0
  have hv1 := HH1_2.out
  have hh1 : w3.heap[w.heap.size + 1]? = some (.cells #[.int .i64 n, .int .i64 t] 23 (0, 0)) := (hb.block _ (heap_lt hv1)).trans hv1
  clear hv1
  have hv2 := HH2_2.out
  have hh2 : w3.heap[w.heap.size + 1 + 1]? = some (.cells #[.int .i64 0, .int .i64 0] 23 (0, 0)) := (hb.block _ (heap_lt hv2)).trans hv2
  clear hv2
  have hbw3 : Below w.heap.size w w3 := (show Below w.heap.size w _ by first | exact HW2.out.trans ⟨rfl, rfl, rfl, Nat.le_refl _, fun _ _ => rfl⟩ | exact HW2.out | (go_grown; done)).trans (hb.mono (by first | omega | (simp; done) | (simp; omega)))
  clear hb lt0 c0_0 c0_1 lt1 c1_0 c1_1 lt2 c2_0 f2_0 c2_1 f2_1 hbw2
  have HH0_3 := Lib.hid hh0
  have lt0 := heap_lt hh0
  have c0_0 : w3.cell? ⟨w.heap.size, 0, none⟩ = some (.int .i64 m) := by rw [Lib.cell_of_heap hh0]; rfl
  have c0_1 : w3.cell? ⟨w.heap.size, 1, none⟩ = some (.int .i64 s) := by rw [Lib.cell_of_heap hh0]; rfl
  clear hh0
  have HH1_3 := Lib.hid hh1
  have lt1 := heap_lt hh1
  have c1_0 : w3.cell? ⟨w.heap.size + 1, 0, none⟩ = some (.int .i64 n) := by rw [Lib.cell_of_heap hh1]; rfl
  have c1_1 : w3.cell? ⟨w.heap.size + 1, 1, none⟩ = some (.int .i64 t) := by rw [Lib.cell_of_heap hh1]; rfl
  clear hh1
  have HH2_3 := Lib.hid hh2
  have lt2 := heap_lt hh2
  have c2_0 : w3.cell? ⟨w.heap.size + 1 + 1, 0, none⟩ = some (.int .i64 0) := by rw [Lib.cell_of_heap hh2]; rfl
  have f2_0 : w3.frozen? ⟨w.heap.size + 1 + 1, 0, none⟩ = false := Lib.frozen_of_heap hh2 0
  have c2_1 : w3.cell? ⟨w.heap.size + 1 + 1, 1, none⟩ = some (.int .i64 0) := by rw [Lib.cell_of_heap hh2]; rfl
  have f2_1 : w3.frozen? ⟨w.heap.size + 1 + 1, 1, none⟩ = false := Lib.frozen_of_heap hh2 1
  clear hh2
  have sz3 := hbw3.size
  have HW3 := Lib.hid hbw3
  have HZ4 : Hid ((w3.alloc (.cells #[.int .i64 0, .int .i64 0, .int .i64 0, .int .i64 0, .int .i64 0, .int .i64 0, .int .i64 0, .int .i64 0, .int .i64 0, .int .i64 0, .int .i64 0, .int .i64 0, .int .i64 0, .int .i64 0, .int .i64 0, .int .i64 0, .int .i64 0, .int .i64 0, .int .i64 0, .int .i64 0, .int .i64 0, .int .i64 0, .int .i64 0, .int .i64 0, .int .i64 0, .int .i64 0, .int .i64 0, .int .i64 0, .int .i64 0, .int .i64 0, .int .i64 0, .int .i64 0, .int .i64 0, .int .i64 0, .int .i64 0, .int .i64 0, .int .i64 0, .int .i64 0, .int .i64 0, .int .i64 0] 51)).heap[w3.heap.size]? = some (.cells (rowF (fun _ => 0)) 51 (0, 0))) := Lib.hid (by rw [← rowF_zero]; exact hnew _ _ _ rfl)
  go_wp2_with (first | (refine row_store rfl 51 _ _ rfl w3.heap.size (rowV u) rfl rfl 51 (rowF (fun _ => 0)) HZ4.out (info40V _) (by rw [rowF_size, rowV_size]) (rowV_one _) ?_; intro w4 hnw hoth hsz hbel; have hbw4 : Below w.heap.size w w4 := hbel _ _ ((HW3.out).alloc (by omega) _) (by omega); have hh0 : w4.heap[w.heap.size]? = some (.cells #[.int .i64 m, .int .i64 s] 23 (0, 0)) := (hoth _ (Nat.ne_of_lt (heap_lt HH0_3.out))).trans (hold HH0_3.out); have hh1 : w4.heap[w.heap.size + 1]? = some (.cells #[.int .i64 n, .int .i64 t] 23 (0, 0)) := (hoth _ (Nat.ne_of_lt (heap_lt HH1_3.out))).trans (hold HH1_3.out); have hh2 : w4.heap[w.heap.size + 1 + 1]? = some (.cells #[.int .i64 0, .int .i64 0] 23 (0, 0)) := (hoth _ (Nat.ne_of_lt (heap_lt HH2_3.out))).trans (hold HH2_3.out); have hh3 : w4.heap[w3.heap.size]? = some (.cells (rowV u) 51 (0, 0)) := hnw; clear lt0 c0_0 c0_1 lt1 c1_0 c1_1 lt2 c2_0 f2_0 c2_1 f2_1 hbw3 hnw hoth hsz hbel; have HH0_4 := Lib.hid hh0; have lt0 := heap_lt hh0; have c0_0 : w4.cell? ⟨w.heap.size, 0, none⟩ = some (.int .i64 m) := (by rw [Lib.cell_of_heap hh0]; rfl); have c0_1 : w4.cell? ⟨w.heap.size, 1, none⟩ = some (.int .i64 s) := (by rw [Lib.cell_of_heap hh0]; rfl); clear hh0; have HH1_4 := Lib.hid hh1; have lt1 := heap_lt hh1; have c1_0 : w4.cell? ⟨w.heap.size + 1, 0, none⟩ = some (.int .i64 n) := (by rw [Lib.cell_of_heap hh1]; rfl); have c1_1 : w4.cell? ⟨w.heap.size + 1, 1, none⟩ = some (.int .i64 t) := (by rw [Lib.cell_of_heap hh1]; rfl); clear hh1; have HH2_4 := Lib.hid hh2; have lt2 := heap_lt hh2; have c2_0 : w4.cell? ⟨w.heap.size + 1 + 1, 0, none⟩ = some (.int .i64 0) := (by rw [Lib.cell_of_heap hh2]; rfl); have f2_0 : w4.frozen? ⟨w.heap.size + 1 + 1, 0, none⟩ = false := Lib.frozen_of_heap hh2 0; have c2_1 : w4.cell? ⟨w.heap.size + 1 + 1, 1, none⟩ = some (.int .i64 0) := (by rw [Lib.cell_of_heap hh2]; rfl); have f2_1 : w4.frozen? ⟨w.heap.size + 1 + 1, 1, none⟩ = false := Lib.frozen_of_heap hh2 1; clear hh2; have HH3_4 := Lib.hid hh3; have lt3 := heap_lt hh3; clear hh3; have sz4 := hbw4.size; have HW4 := Lib.hid hbw4))
  refine (H4.out _).mono ?_; rintro e w5 ⟨rfl, hb⟩
  have hv0 := HH0_4.out
  have hh0 : w5.heap[w.heap.size]? = some (.cells #[.int .i64 m, .int .i64 s] 23 (0, 0)) := (hb.block _ (heap_lt hv0)).trans hv0
  clear hv0
  have hv1 := HH1_4.out
  have hh1 : w5.heap[w.heap.size + 1]? = some (.cells #[.int .i64 n, .int .i64 t] 23 (0, 0)) := (hb.block _ (heap_lt hv1)).trans hv1
  clear hv1
  have hv2 := HH2_4.out
  have hh2 : w5.heap[w.heap.size + 1 + 1]? = some (.cells #[.int .i64 0, .int .i64 0] 23 (0, 0)) := (hb.block _ (heap_lt hv2)).trans hv2
  clear hv2
  have hv3 := HH3_4.out
  have hh3 : w5.heap[w3.heap.size]? = some (.cells (rowV u) 51 (0, 0)) := (hb.block _ (heap_lt hv3)).trans hv3
  clear hv3
  have hbw5 : Below w.heap.size w w5 := (show Below w.heap.size w _ by first | exact HW4.out.trans ⟨rfl, rfl, rfl, Nat.le_refl _, fun _ _ => rfl⟩ | exact HW4.out | (go_grown; done)).trans (hb.mono (by first | omega | (simp; done) | (simp; omega)))
  clear hb lt0 c0_0 c0_1 lt1 c1_0 c1_1 lt2 c2_0 f2_0 c2_1 f2_1 lt3 hbw4
  have HH0_5 := Lib.hid hh0
  have lt0 := heap_lt hh0
  have c0_0 : w5.cell? ⟨w.heap.size, 0, none⟩ = some (.int .i64 m) := by rw [Lib.cell_of_heap hh0]; rfl
  have c0_1 : w5.cell? ⟨w.heap.size, 1, none⟩ = some (.int .i64 s) := by rw [Lib.cell_of_heap hh0]; rfl
  clear hh0
  have HH1_5 := Lib.hid hh1
  have lt1 := heap_lt hh1
  have c1_0 : w5.cell? ⟨w.heap.size + 1, 0, none⟩ = some (.int .i64 n) := by rw [Lib.cell_of_heap hh1]; rfl
  have c1_1 : w5.cell? ⟨w.heap.size + 1, 1, none⟩ = some (.int .i64 t) := by rw [Lib.cell_of_heap hh1]; rfl
  clear hh1
  have HH2_5 := Lib.hid hh2
  have lt2 := heap_lt hh2
  have c2_0 : w5.cell? ⟨w.heap.size + 1 + 1, 0, none⟩ = some (.int .i64 0) := by rw [Lib.cell_of_heap hh2]; rfl
  have f2_0 : w5.frozen? ⟨w.heap.size + 1 + 1, 0, none⟩ = false := Lib.frozen_of_heap hh2 0
  have c2_1 : w5.cell? ⟨w.heap.size + 1 + 1, 1, none⟩ = some (.int .i64 0) := by rw [Lib.cell_of_heap hh2]; rfl
  have f2_1 : w5.frozen? ⟨w.heap.size + 1 + 1, 1, none⟩ = false := Lib.frozen_of_heap hh2 1
  clear hh2
  have HH3_5 := Lib.hid hh3
  have lt3 := heap_lt hh3
  clear hh3
  have sz5 := hbw5.size
  have HW5 := Lib.hid hbw5
  have HZ6 : Hid ((w5.alloc (.cells #[.int .i64 0, .int .i64 0, .int .i64 0, .int .i64 0, .int .i64 0, .int .i64 0, .int .i64 0, .int .i64 0, .int .i64 0, .int .i64 0, .int .i64 0, .int .i64 0, .int .i64 0, .int .i64 0, .int .i64 0, .int .i64 0, .int .i64 0, .int .i64 0, .int .i64 0, .int .i64 0, .int .i64 0, .int .i64 0, .int .i64 0, .int .i64 0, .int .i64 0, .int .i64 0, .int .i64 0, .int .i64 0, .int .i64 0, .int .i64 0, .int .i64 0, .int .i64 0, .int .i64 0, .int .i64 0, .int .i64 0, .int .i64 0, .int .i64 0, .int .i64 0, .int .i64 0, .int .i64 0] 51)).heap[w5.heap.size]? = some (.cells (rowF (fun _ => 0)) 51 (0, 0))) := Lib.hid (by rw [← rowF_zero]; exact hnew _ _ _ rfl)
  go_wp2_with (first | (refine row_store rfl 51 _ _ rfl w5.heap.size (rowV v) rfl rfl 51 (rowF (fun _ => 0)) HZ6.out (info40V _) (by rw [rowF_size, rowV_size]) (rowV_one _) ?_; intro w6 hnw hoth hsz hbel; have hbw6 : Below w.heap.size w w6 := hbel _ _ ((HW5.out).alloc (by omega) _) (by omega); have hh0 : w6.heap[w.heap.size]? = some (.cells #[.int .i64 m, .int .i64 s] 23 (0, 0)) := (hoth _ (Nat.ne_of_lt (heap_lt HH0_5.out))).trans (hold HH0_5.out); have hh1 : w6.heap[w.heap.size + 1]? = some (.cells #[.int .i64 n, .int .i64 t] 23 (0, 0)) := (hoth _ (Nat.ne_of_lt (heap_lt HH1_5.out))).trans (hold HH1_5.out); have hh2 : w6.heap[w.heap.size + 1 + 1]? = some (.cells #[.int .i64 0, .int .i64 0] 23 (0, 0)) := (hoth _ (Nat.ne_of_lt (heap_lt HH2_5.out))).trans (hold HH2_5.out); have hh3 : w6.heap[w3.heap.size]? = some (.cells (rowV u) 51 (0, 0)) := (hoth _ (Nat.ne_of_lt (heap_lt HH3_5.out))).trans (hold HH3_5.out); have hh4 : w6.heap[w5.heap.size]? = some (.cells (rowV v) 51 (0, 0)) := hnw; clear lt0 c0_0 c0_1 lt1 c1_0 c1_1 lt2 c2_0 f2_0 c2_1 f2_1 lt3 hbw5 hnw hoth hsz hbel; have HH0_6 := Lib.hid hh0; have lt0 := heap_lt hh0; have c0_0 : w6.cell? ⟨w.heap.size, 0, none⟩ = some (.int .i64 m) := (by rw [Lib.cell_of_heap hh0]; rfl); have c0_1 : w6.cell? ⟨w.heap.size, 1, none⟩ = some (.int .i64 s) := (by rw [Lib.cell_of_heap hh0]; rfl); clear hh0; have HH1_6 := Lib.hid hh1; have lt1 := heap_lt hh1; have c1_0 : w6.cell? ⟨w.heap.size + 1, 0, none⟩ = some (.int .i64 n) := (by rw [Lib.cell_of_heap hh1]; rfl); have c1_1 : w6.cell? ⟨w.heap.size + 1, 1, none⟩ = some (.int .i64 t) := (by rw [Lib.cell_of_heap hh1]; rfl); clear hh1; have HH2_6 := Lib.hid hh2; have lt2 := heap_lt hh2; have c2_0 : w6.cell? ⟨w.heap.size + 1 + 1, 0, none⟩ = some (.int .i64 0) := (by rw [Lib.cell_of_heap hh2]; rfl); have f2_0 : w6.frozen? ⟨w.heap.size + 1 + 1, 0, none⟩ = false := Lib.frozen_of_heap hh2 0; have c2_1 : w6.cell? ⟨w.heap.size + 1 + 1, 1, none⟩ = some (.int .i64 0) := (by rw [Lib.cell_of_heap hh2]; rfl); have f2_1 : w6.frozen? ⟨w.heap.size + 1 + 1, 1, none⟩ = false := Lib.frozen_of_heap hh2 1; clear hh2; have HH3_6 := Lib.hid hh3; have lt3 := heap_lt hh3; clear hh3; have HH4_6 := Lib.hid hh4; have lt4 := heap_lt hh4; clear hh4; have sz6 := hbw6.size; have HW6 := Lib.hid hbw6) | (refine wpList_load_row rfl 51 _ rfl (w3.heap.size) rfl 51 (rowV u) (0, 0) _ HH3_6.out Tryd.underlying51 rfl (info40V _) ?_) | (refine wpList_load_row rfl 51 _ rfl (w5.heap.size) rfl 51 (rowV v) (0, 0) _ HH4_6.out Tryd.underlying51 rfl (info40V _) ?_))
  refine (H5.out _).mono ?_; rintro e w7 ⟨rfl, hb⟩
  have hv0 := HH0_6.out
  have hh0 : w7.heap[w.heap.size]? = some (.cells #[.int .i64 m, .int .i64 s] 23 (0, 0)) := (hb.block _ (heap_lt hv0)).trans hv0
  clear hv0
  have hv1 := HH1_6.out
  have hh1 : w7.heap[w.heap.size + 1]? = some (.cells #[.int .i64 n, .int .i64 t] 23 (0, 0)) := (hb.block _ (heap_lt hv1)).trans hv1
  clear hv1
  have hv2 := HH2_6.out
  have hh2 : w7.heap[w.heap.size + 1 + 1]? = some (.cells #[.int .i64 0, .int .i64 0] 23 (0, 0)) := (hb.block _ (heap_lt hv2)).trans hv2
  clear hv2
  have hv3 := HH3_6.out
  have hh3 : w7.heap[w3.heap.size]? = some (.cells (rowV u) 51 (0, 0)) := (hb.block _ (heap_lt hv3)).trans hv3
  clear hv3
  have hv4 := HH4_6.out
  have hh4 : w7.heap[w5.heap.size]? = some (.cells (rowV v) 51 (0, 0)) := (hb.block _ (heap_lt hv4)).trans hv4
  clear hv4
  have hbw7 : Below w.heap.size w w7 := (show Below w.heap.size w _ by first | exact HW6.out.trans ⟨rfl, rfl, rfl, Nat.le_refl _, fun _ _ => rfl⟩ | exact HW6.out | (go_grown; done)).trans (hb.mono (by first | omega | (simp; done) | (simp; omega)))
  clear hb lt0 c0_0 c0_1 lt1 c1_0 c1_1 lt2 c2_0 f2_0 c2_1 f2_1 lt3 lt4 hbw6
  have HH0_7 := Lib.hid hh0
  have lt0 := heap_lt hh0
  have c0_0 : w7.cell? ⟨w.heap.size, 0, none⟩ = some (.int .i64 m) := by rw [Lib.cell_of_heap hh0]; rfl
  have c0_1 : w7.cell? ⟨w.heap.size, 1, none⟩ = some (.int .i64 s) := by rw [Lib.cell_of_heap hh0]; rfl
  clear hh0
  have HH1_7 := Lib.hid hh1
  have lt1 := heap_lt hh1
  have c1_0 : w7.cell? ⟨w.heap.size + 1, 0, none⟩ = some (.int .i64 n) := by rw [Lib.cell_of_heap hh1]; rfl
  have c1_1 : w7.cell? ⟨w.heap.size + 1, 1, none⟩ = some (.int .i64 t) := by rw [Lib.cell_of_heap hh1]; rfl
  clear hh1
  have HH2_7 := Lib.hid hh2
  have lt2 := heap_lt hh2
  have c2_0 : w7.cell? ⟨w.heap.size + 1 + 1, 0, none⟩ = some (.int .i64 0) := by rw [Lib.cell_of_heap hh2]; rfl
  have f2_0 : w7.frozen? ⟨w.heap.size + 1 + 1, 0, none⟩ = false := Lib.frozen_of_heap hh2 0
  have c2_1 : w7.cell? ⟨w.heap.size + 1 + 1, 1, none⟩ = some (.int .i64 0) := by rw [Lib.cell_of_heap hh2]; rfl
  have f2_1 : w7.frozen? ⟨w.heap.size + 1 + 1, 1, none⟩ = false := Lib.frozen_of_heap hh2 1
  clear hh2
  have HH3_7 := Lib.hid hh3
  have lt3 := heap_lt hh3
  clear hh3
  have HH4_7 := Lib.hid hh4
  have lt4 := heap_lt hh4
  clear hh4
  have sz7 := hbw7.size
  have HW7 := Lib.hid hbw7
  go_wp2_with (first | (refine row_store rfl 51 _ _ rfl (w3.heap.size) (rowV v) rfl rfl 51 (rowV u) HH3_7.out (info40V _) (by rw [rowV_size, rowV_size]) (rowV_one _) ?_; intro w8 hnw hoth hsz hbel; have hbw8 : Below w.heap.size w w8 := hbel _ _ HW7.out (by have := heap_lt HH3_7.out; have := sz3; omega); have hh0 : w8.heap[w.heap.size]? = some (.cells #[.int .i64 m, .int .i64 s] 23 (0, 0)) := (hoth _ (Nat.ne_of_lt (heap_lt HH0_3.out))).trans HH0_7.out; have hh1 : w8.heap[w.heap.size + 1]? = some (.cells #[.int .i64 n, .int .i64 t] 23 (0, 0)) := (hoth _ (Nat.ne_of_lt (heap_lt HH1_3.out))).trans HH1_7.out; have hh2 : w8.heap[w.heap.size + 1 + 1]? = some (.cells #[.int .i64 0, .int .i64 0] 23 (0, 0)) := (hoth _ (Nat.ne_of_lt (heap_lt HH2_3.out))).trans HH2_7.out; have hh3 : w8.heap[w3.heap.size]? = some (.cells (rowV v) 51 (0, 0)) := hnw; have hh4 : w8.heap[w5.heap.size]? = some (.cells (rowV v) 51 (0, 0)) := (hoth _ (Nat.ne_of_gt (heap_lt HH3_5.out))).trans HH4_7.out; clear lt0 c0_0 c0_1 lt1 c1_0 c1_1 lt2 c2_0 f2_0 c2_1 f2_1 lt3 lt4 hbw7 hnw hoth hsz hbel; have HH0_8 := Lib.hid hh0; have lt0 := heap_lt hh0; have c0_0 : w8.cell? ⟨w.heap.size, 0, none⟩ = some (.int .i64 m) := (by rw [Lib.cell_of_heap hh0]; rfl); have c0_1 : w8.cell? ⟨w.heap.size, 1, none⟩ = some (.int .i64 s) := (by rw [Lib.cell_of_heap hh0]; rfl); clear hh0; have HH1_8 := Lib.hid hh1; have lt1 := heap_lt hh1; have c1_0 : w8.cell? ⟨w.heap.size + 1, 0, none⟩ = some (.int .i64 n) := (by rw [Lib.cell_of_heap hh1]; rfl); have c1_1 : w8.cell? ⟨w.heap.size + 1, 1, none⟩ = some (.int .i64 t) := (by rw [Lib.cell_of_heap hh1]; rfl); clear hh1; have HH2_8 := Lib.hid hh2; have lt2 := heap_lt hh2; have c2_0 : w8.cell? ⟨w.heap.size + 1 + 1, 0, none⟩ = some (.int .i64 0) := (by rw [Lib.cell_of_heap hh2]; rfl); have f2_0 : w8.frozen? ⟨w.heap.size + 1 + 1, 0, none⟩ = false := Lib.frozen_of_heap hh2 0; have c2_1 : w8.cell? ⟨w.heap.size + 1 + 1, 1, none⟩ = some (.int .i64 0) := (by rw [Lib.cell_of_heap hh2]; rfl); have f2_1 : w8.frozen? ⟨w.heap.size + 1 + 1, 1, none⟩ = false := Lib.frozen_of_heap hh2 1; clear hh2; have HH3_8 := Lib.hid hh3; have lt3 := heap_lt hh3; clear hh3; have HH4_8 := Lib.hid hh4; have lt4 := heap_lt hh4; clear hh4; have sz8 := hbw8.size; have HW8 := Lib.hid hbw8) | (refine row_store rfl 51 _ _ rfl (w5.heap.size) (rowV u) rfl rfl 51 (rowV v) HH4_8.out (info40V _) (by rw [rowV_size, rowV_size]) (rowV_one _) ?_; intro w9 hnw hoth hsz hbel; have hbw9 : Below w.heap.size w w9 := hbel _ _ HW8.out (by have := heap_lt HH4_8.out; have := sz5; omega); have hh0 : w9.heap[w.heap.size]? = some (.cells #[.int .i64 m, .int .i64 s] 23 (0, 0)) := (hoth _ (Nat.ne_of_lt (heap_lt HH0_5.out))).trans HH0_8.out; have hh1 : w9.heap[w.heap.size + 1]? = some (.cells #[.int .i64 n, .int .i64 t] 23 (0, 0)) := (hoth _ (Nat.ne_of_lt (heap_lt HH1_5.out))).trans HH1_8.out; have hh2 : w9.heap[w.heap.size + 1 + 1]? = some (.cells #[.int .i64 0, .int .i64 0] 23 (0, 0)) := (hoth _ (Nat.ne_of_lt (heap_lt HH2_5.out))).trans HH2_8.out; have hh3 : w9.heap[w3.heap.size]? = some (.cells (rowV v) 51 (0, 0)) := (hoth _ (Nat.ne_of_lt (heap_lt HH3_5.out))).trans HH3_8.out; have hh4 : w9.heap[w5.heap.size]? = some (.cells (rowV u) 51 (0, 0)) := hnw; clear lt0 c0_0 c0_1 lt1 c1_0 c1_1 lt2 c2_0 f2_0 c2_1 f2_1 lt3 lt4 hbw8 hnw hoth hsz hbel; have HH0_9 := Lib.hid hh0; have lt0 := heap_lt hh0; have c0_0 : w9.cell? ⟨w.heap.size, 0, none⟩ = some (.int .i64 m) := (by rw [Lib.cell_of_heap hh0]; rfl); have c0_1 : w9.cell? ⟨w.heap.size, 1, none⟩ = some (.int .i64 s) := (by rw [Lib.cell_of_heap hh0]; rfl); clear hh0; have HH1_9 := Lib.hid hh1; have lt1 := heap_lt hh1; have c1_0 : w9.cell? ⟨w.heap.size + 1, 0, none⟩ = some (.int .i64 n) := (by rw [Lib.cell_of_heap hh1]; rfl); have c1_1 : w9.cell? ⟨w.heap.size + 1, 1, none⟩ = some (.int .i64 t) := (by rw [Lib.cell_of_heap hh1]; rfl); clear hh1; have HH2_9 := Lib.hid hh2; have lt2 := heap_lt hh2; have c2_0 : w9.cell? ⟨w.heap.size + 1 + 1, 0, none⟩ = some (.int .i64 0) := (by rw [Lib.cell_of_heap hh2]; rfl); have f2_0 : w9.frozen? ⟨w.heap.size + 1 + 1, 0, none⟩ = false := Lib.frozen_of_heap hh2 0; have c2_1 : w9.cell? ⟨w.heap.size + 1 + 1, 1, none⟩ = some (.int .i64 0) := (by rw [Lib.cell_of_heap hh2]; rfl); have f2_1 : w9.frozen? ⟨w.heap.size + 1 + 1, 1, none⟩ = false := Lib.frozen_of_heap hh2 1; clear hh2; have HH3_9 := Lib.hid hh3; have lt3 := heap_lt hh3; clear hh3; have HH4_9 := Lib.hid hh4; have lt4 := heap_lt hh4; clear hh4; have sz9 := hbw9.size; have HW9 := Lib.hid hbw9) | (refine wpList_load_row rfl 51 _ rfl (w3.heap.size) rfl 51 (rowV v) (0, 0) _ HH3_9.out Tryd.underlying51 rfl (info40V _) ?_) | (refine wpList_load_row rfl 51 _ rfl (w5.heap.size) rfl 51 (rowV u) (0, 0) _ HH4_9.out Tryd.underlying51 rfl (info40V _) ?_) | (refine wpList_load_row rfl 51 _ rfl (w3.heap.size) rfl 51 (rowV u) (0, 0) _ HH3_7.out Tryd.underlying51 rfl (info40V _) ?_) | (refine wpList_load_row rfl 51 _ rfl (w5.heap.size) rfl 51 (rowV v) (0, 0) _ HH4_7.out Tryd.underlying51 rfl (info40V _) ?_))
  refine (H6.out _).mono ?_; rintro e w10 ⟨rfl, hb⟩
  have hv0 := HH0_9.out
  have hh0 : w10.heap[w.heap.size]? = some (.cells #[.int .i64 m, .int .i64 s] 23 (0, 0)) := (hb.block _ (heap_lt hv0)).trans hv0
  clear hv0
  have hv1 := HH1_9.out
  have hh1 : w10.heap[w.heap.size + 1]? = some (.cells #[.int .i64 n, .int .i64 t] 23 (0, 0)) := (hb.block _ (heap_lt hv1)).trans hv1
  clear hv1
  have hv2 := HH2_9.out
  have hh2 : w10.heap[w.heap.size + 1 + 1]? = some (.cells #[.int .i64 0, .int .i64 0] 23 (0, 0)) := (hb.block _ (heap_lt hv2)).trans hv2
  clear hv2
  have hv3 := HH3_9.out
  have hh3 : w10.heap[w3.heap.size]? = some (.cells (rowV v) 51 (0, 0)) := (hb.block _ (heap_lt hv3)).trans hv3
  clear hv3
  have hv4 := HH4_9.out
  have hh4 : w10.heap[w5.heap.size]? = some (.cells (rowV u) 51 (0, 0)) := (hb.block _ (heap_lt hv4)).trans hv4
  clear hv4
  have hbw10 : Below w.heap.size w w10 := (show Below w.heap.size w _ by first | exact HW9.out.trans ⟨rfl, rfl, rfl, Nat.le_refl _, fun _ _ => rfl⟩ | exact HW9.out | (go_grown; done)).trans (hb.mono (by first | omega | (simp; done) | (simp; omega)))
  clear hb lt0 c0_0 c0_1 lt1 c1_0 c1_1 lt2 c2_0 f2_0 c2_1 f2_1 lt3 lt4 hbw9
  have HH0_10 := Lib.hid hh0
  have lt0 := heap_lt hh0
  have c0_0 : w10.cell? ⟨w.heap.size, 0, none⟩ = some (.int .i64 m) := by rw [Lib.cell_of_heap hh0]; rfl
  have c0_1 : w10.cell? ⟨w.heap.size, 1, none⟩ = some (.int .i64 s) := by rw [Lib.cell_of_heap hh0]; rfl
  clear hh0
  have HH1_10 := Lib.hid hh1
  have lt1 := heap_lt hh1
  have c1_0 : w10.cell? ⟨w.heap.size + 1, 0, none⟩ = some (.int .i64 n) := by rw [Lib.cell_of_heap hh1]; rfl
  have c1_1 : w10.cell? ⟨w.heap.size + 1, 1, none⟩ = some (.int .i64 t) := by rw [Lib.cell_of_heap hh1]; rfl
  clear hh1
  have HH2_10 := Lib.hid hh2
  have lt2 := heap_lt hh2
  have c2_0 : w10.cell? ⟨w.heap.size + 1 + 1, 0, none⟩ = some (.int .i64 0) := by rw [Lib.cell_of_heap hh2]; rfl
  have f2_0 : w10.frozen? ⟨w.heap.size + 1 + 1, 0, none⟩ = false := Lib.frozen_of_heap hh2 0
  have c2_1 : w10.cell? ⟨w.heap.size + 1 + 1, 1, none⟩ = some (.int .i64 0) := by rw [Lib.cell_of_heap hh2]; rfl
  have f2_1 : w10.frozen? ⟨w.heap.size + 1 + 1, 1, none⟩ = false := Lib.frozen_of_heap hh2 1
  clear hh2
  have HH3_10 := Lib.hid hh3
  have lt3 := heap_lt hh3
  clear hh3
  have HH4_10 := Lib.hid hh4
  have lt4 := heap_lt hh4
  clear hh4
  have sz10 := hbw10.size
  have HW10 := Lib.hid hbw10
  have HZ11 : Hid ((w10.alloc (.cells #[.int .i64 0, .int .i64 0, .int .i64 0, .int .i64 0, .int .i64 0, .int .i64 0, .int .i64 0, .int .i64 0, .int .i64 0, .int .i64 0, .int .i64 0, .int .i64 0, .int .i64 0, .int .i64 0, .int .i64 0, .int .i64 0, .int .i64 0, .int .i64 0, .int .i64 0, .int .i64 0, .int .i64 0, .int .i64 0, .int .i64 0, .int .i64 0, .int .i64 0, .int .i64 0, .int .i64 0, .int .i64 0, .int .i64 0, .int .i64 0, .int .i64 0, .int .i64 0, .int .i64 0, .int .i64 0, .int .i64 0, .int .i64 0, .int .i64 0, .int .i64 0, .int .i64 0, .int .i64 0] 51)).heap[w10.heap.size]? = some (.cells (rowF (fun _ => 0)) 51 (0, 0))) := Lib.hid (by rw [← rowF_zero]; exact hnew _ _ _ rfl)
  go_wp2_with (first | (refine row_store rfl 51 _ _ rfl w10.heap.size (rowV z) rfl rfl 51 (rowF (fun _ => 0)) HZ11.out (info40V _) (by rw [rowF_size, rowV_size]) (rowV_one _) ?_; intro w11 hnw hoth hsz hbel; have hbw11 : Below w.heap.size w w11 := hbel _ _ ((HW10.out).alloc (by omega) _) (by omega); have hh0 : w11.heap[w.heap.size]? = some (.cells #[.int .i64 m, .int .i64 s] 23 (0, 0)) := (hoth _ (Nat.ne_of_lt (heap_lt HH0_10.out))).trans (hold HH0_10.out); have hh1 : w11.heap[w.heap.size + 1]? = some (.cells #[.int .i64 n, .int .i64 t] 23 (0, 0)) := (hoth _ (Nat.ne_of_lt (heap_lt HH1_10.out))).trans (hold HH1_10.out); have hh2 : w11.heap[w.heap.size + 1 + 1]? = some (.cells #[.int .i64 0, .int .i64 0] 23 (0, 0)) := (hoth _ (Nat.ne_of_lt (heap_lt HH2_10.out))).trans (hold HH2_10.out); have hh3 : w11.heap[w3.heap.size]? = some (.cells (rowV v) 51 (0, 0)) := (hoth _ (Nat.ne_of_lt (heap_lt HH3_10.out))).trans (hold HH3_10.out); have hh4 : w11.heap[w5.heap.size]? = some (.cells (rowV u) 51 (0, 0)) := (hoth _ (Nat.ne_of_lt (heap_lt HH4_10.out))).trans (hold HH4_10.out); have hh5 : w11.heap[w10.heap.size]? = some (.cells (rowV z) 51 (0, 0)) := hnw; clear lt0 c0_0 c0_1 lt1 c1_0 c1_1 lt2 c2_0 f2_0 c2_1 f2_1 lt3 lt4 hbw10 hnw hoth hsz hbel; have HH0_11 := Lib.hid hh0; have lt0 := heap_lt hh0; have c0_0 : w11.cell? ⟨w.heap.size, 0, none⟩ = some (.int .i64 m) := (by rw [Lib.cell_of_heap hh0]; rfl); have c0_1 : w11.cell? ⟨w.heap.size, 1, none⟩ = some (.int .i64 s) := (by rw [Lib.cell_of_heap hh0]; rfl); clear hh0; have HH1_11 := Lib.hid hh1; have lt1 := heap_lt hh1; have c1_0 : w11.cell? ⟨w.heap.size + 1, 0, none⟩ = some (.int .i64 n) := (by rw [Lib.cell_of_heap hh1]; rfl); have c1_1 : w11.cell? ⟨w.heap.size + 1, 1, none⟩ = some (.int .i64 t) := (by rw [Lib.cell_of_heap hh1]; rfl); clear hh1; have HH2_11 := Lib.hid hh2; have lt2 := heap_lt hh2; have c2_0 : w11.cell? ⟨w.heap.size + 1 + 1, 0, none⟩ = some (.int .i64 0) := (by rw [Lib.cell_of_heap hh2]; rfl); have f2_0 : w11.frozen? ⟨w.heap.size + 1 + 1, 0, none⟩ = false := Lib.frozen_of_heap hh2 0; have c2_1 : w11.cell? ⟨w.heap.size + 1 + 1, 1, none⟩ = some (.int .i64 0) := (by rw [Lib.cell_of_heap hh2]; rfl); have f2_1 : w11.frozen? ⟨w.heap.size + 1 + 1, 1, none⟩ = false := Lib.frozen_of_heap hh2 1; clear hh2; have HH3_11 := Lib.hid hh3; have lt3 := heap_lt hh3; clear hh3; have HH4_11 := Lib.hid hh4; have lt4 := heap_lt hh4; clear hh4; have HH5_11 := Lib.hid hh5; have lt5 := heap_lt hh5; clear hh5; have sz11 := hbw11.size; have HW11 := Lib.hid hbw11))
  go_loop [11, 12] (fun a b => ∃ j : Nat, j ≤ g ∧ a = .int .i64 (18 - (j : Int)) ∧ b = .int .i64 (j : Int)) (fun a b => (intOf a).toNat)
  case atStart => exact ⟨0, by omega, rfl, rfl⟩
  case round =>
    obtain ⟨j, hjg, rfl, rfl⟩ := hrel
    have hj40 : j < 40 := by omega
    have cj : w11.cell? ⟨w10.heap.size, j, none⟩ = some (.int .i64 (dgt z j : Int)) := by
      rw [cell_of_row _ _ _ _ _ _ HH5_11.out, rowV_get _ _ hj40]
    have hji : (j : Int) < 40 := by omega
    have hj0 : (0 : Int) ≤ (j : Int) := by omega
    by_cases hlt : j < g
    · have hz0 := HG.out.1 j hlt
      rw [hz0] at cj
      have hpos : (0 : Int) < 18 - (j : Int) := by omega
      have hpos2 : (j : Int) < 18 := by omega
      have v1 : IntKind.i64.wrap ((j : Int) + 1) = (j : Int) + 1 := IntWalk.i64_in _ (by omega)
      have v2 : IntKind.i64.wrap (18 - (j : Int) - 1) = 18 - (j : Int) - 1 := IntWalk.i64_in _ (by omega)
      clear hz0
      go_wp2_with fail
      go_round
      case rel => exact ⟨j + 1, by omega, by go_num, by go_num⟩
      case measure => simp [intOf]; omega
    · obtain rfl : g = j := by omega
      by_cases h18 : g = 18
      · have hz1 : decide ((0 : Int) < 18 - (g : Int)) = false := decide_eq_false (by omega)
        have hz2 : ¬ ((g : Int) < 18) := by omega
        have hz3 : ¬ ((0 : Int) < 18 - (g : Int)) := by omega
        have hz4 : ¬ (g < 18) := by omega
        have H18 := Lib.hid h18
        clear h18
        go_wp2_with fail
        go_loop [13, 14] (fun a i => ∃ k : Nat, g ≤ k ∧ k ≤ 40 ∧ i = .int .i64 ((k : Int) - 1) ∧ a = .int .i64 (-(z / 10 ^ k : Nat) : Int) ∧ Hid (inR (-(z / 10 ^ k : Nat) : Int) = true)) (fun a i => (intOf i + 1).toNat)
        case atStart => exact ⟨40, by omega, by omega, rfl, by rw [Nat.div_eq_of_lt HZ40.out]; rfl, Lib.hid (by rw [Nat.div_eq_of_lt HZ40.out]; decide)⟩
        case round =>
          obtain ⟨k, hk1, hk2, rfl, rfl, HRK⟩ := hrel
          by_cases hkg : k = g
          · obtain rfl : g = k := hkg.symm
            exact absurd (HRK.out.symm.trans HR.out) (by decide)
          · obtain ⟨i, rfl⟩ : ∃ i, k = i + 1 := ⟨k - 1, by omega⟩
            have hj : i < 40 := by omega
            have hji : (i : Int) < 40 := by omega
            have hgi : (g : Int) ≤ (i : Int) := by omega
            have ci : w11.cell? ⟨w10.heap.size, i, none⟩ = some (.int .i64 (dgt z i : Int)) := by
              rw [cell_of_row _ _ _ _ _ _ HH5_11.out, rowV_get _ _ hj]
            have hlead := lead z i
            have hd9 := dgt_lt z i
            obtain ⟨a, ha⟩ : ∃ a, z / 10 ^ (i + 1) = a := ⟨_, rfl⟩
            obtain ⟨b, hb⟩ : ∃ b, z / 10 ^ i = b := ⟨_, rfl⟩
            obtain ⟨d, hd⟩ : ∃ d, dgt z i = d := ⟨_, rfl⟩
            obtain ⟨c, hc⟩ : ∃ c, 10 * a = c := ⟨_, rfl⟩
            rw [ha, hb, hd] at hlead
            rw [hd] at ci hd9
            rw [ha] at HRK ⊢
            have HBE : Hid (z / 10 ^ i = b) := Lib.hid hb
            have hra : R (-(a : Nat) : Int) := (inR_iff _).1 HRK.out
            have hra2 := hra
            unfold R at hra2
            have hrd : R (-(d : Int)) := by unfold R; omega
            have HM1 := HM.out _ hra
            rw [show (-(a : Nat) : Int) * 10 = -(c : Int) by omega] at HM1
            have hii2 : ((i + 1 : Nat) : Int) - 1 = (i : Int) := by omega
            rw [hii2]
            have vi : IntKind.i64.wrap ((i : Int) - 1) = (i : Int) - 1 := IntWalk.i64_in _ (by omega)
            have hkg2 : Hid (g ≤ i) := Lib.hid (by omega)
            by_cases hR1 : R (-(c : Int))
            · have hR1' := hR1
              unfold R at hR1'
              have hA1 := HAD.out _ _ hR1 hrd
              rw [show -(c : Int) + -(d : Int) = -(b : Int) by omega] at hA1
              have v1 : IntKind.i64.wrap (10 * -(a : Int)) = -(c : Int) := by rw [IntWalk.i64_in _ (by omega)]; omega
              have v2 : IntKind.i64.wrap (-(10 * (a : Int))) = -(c : Int) := by rw [IntWalk.i64_in _ (by omega)]; omega
              have v3 : IntKind.i64.wrap (-(d : Int)) = -(d : Int) := IntWalk.i64_in _ (by omega)
              rw [show inR (-(c : Int)) = true from (inR_iff _).2 hR1] at HM1
              have HM2 := Lib.hid HM1
              by_cases hR2 : R (-(b : Int))
              · have hR2' := hR2
                unfold R at hR2'
                rw [show inR (-(b : Int)) = true from (inR_iff _).2 hR2] at hA1
                have HA2 := Lib.hid hA1
                have v4 : IntKind.i64.wrap (-(c : Int) + -(d : Int)) = -(b : Int) := by rw [IntWalk.i64_in _ (by omega)]; omega
                have HNX : Hid (inR (-(b : Int)) = true) := Lib.hid ((inR_iff _).2 hR2)
                clear HM1 hA1 hlead ha hb hd hc hra hrd hR1 hR2 hra2 hkg
                go_wp2_with fail
                refine (HM2.out _).mono ?_; rintro e w' ⟨rfl, rfl⟩
                go_wp2_with fail
                refine (HA2.out _).mono ?_; rintro e w' ⟨rfl, rfl⟩
                go_wp2_with fail
                go_round
                case rel => exact ⟨i, hkg2.out, by omega, by go_num, by rw [HBE.out], by rw [HBE.out]; exact HNX⟩
                case measure => simp [intOf]; try omega
              · rw [show inR (-(b : Int)) = false by rw [Bool.eq_false_iff]; exact fun q => hR2 ((inR_iff _).1 q)] at hA1
                have HA2 := Lib.hid hA1
                have HBAD := Lib.hid hR2
                clear HM1 hA1 hlead ha hb hd hc hra hrd hR1 hR2 hra2 hkg
                go_wp2_with fail
                refine (HM2.out _).mono ?_; rintro e w' ⟨rfl, rfl⟩
                go_wp2_with fail
                refine (HA2.out _).mono ?_; rintro e w' ⟨rfl, rfl⟩
                go_wp2_with fail
                refine bodyPost_ret (v := .tuple #[.agg #[.int .i64 0, .int .i64 0], .int .i64 20]) (by simp [results, Tryd.results7, go_sem, c2_0, c2_1, f2_0, f2_1]; try rfl) rfl ?_
                exact ⟨rfl, by first | (go_grown; done) | exact HW11.out⟩
            · rw [show inR (-(c : Int)) = false by rw [Bool.eq_false_iff]; exact fun q => hR1 ((inR_iff _).1 q)] at HM1
              have HM2 := Lib.hid HM1
              have v3 : IntKind.i64.wrap (-(d : Int)) = -(d : Int) := IntWalk.i64_in _ (by omega)
              clear HM1 hlead ha hb hd hc hra hrd hR1 hra2 hkg
              go_wp2_with fail
              refine (HM2.out _).mono ?_; rintro e w' ⟨rfl, rfl⟩
              go_wp2_with fail
              refine bodyPost_ret (v := .tuple #[.agg #[.int .i64 0, .int .i64 0], .int .i64 20]) (by simp [results, Tryd.results7, go_sem, c2_0, c2_1, f2_0, f2_1]; try rfl) rfl ?_
              exact ⟨rfl, by first | (go_grown; done) | exact HW11.out⟩
      · have hnz := HG.out.2.resolve_left h18
        have hpos : (0 : Int) < 18 - (g : Int) := by omega
        have hpos2 : (g : Int) < 18 := by omega
        obtain ⟨d0, hd0⟩ : ∃ d0, dgt z g = d0 := ⟨_, rfl⟩
        rw [hd0] at cj hnz
        have hnz2 : ((d0 : Int) == 0) = false := by rw [beq_eq_false_iff_ne]; omega
        have hnz3 : ¬ (d0 : Int) = 0 := by omega
        clear hd0
        go_wp2_with fail
        go_loop [13, 14] (fun a i => ∃ k : Nat, g ≤ k ∧ k ≤ 40 ∧ i = .int .i64 ((k : Int) - 1) ∧ a = .int .i64 (-(z / 10 ^ k : Nat) : Int) ∧ Hid (inR (-(z / 10 ^ k : Nat) : Int) = true)) (fun a i => (intOf i + 1).toNat)
        case atStart => exact ⟨40, by omega, by omega, rfl, by rw [Nat.div_eq_of_lt HZ40.out]; rfl, Lib.hid (by rw [Nat.div_eq_of_lt HZ40.out]; decide)⟩
        case round =>
          obtain ⟨k, hk1, hk2, rfl, rfl, HRK⟩ := hrel
          by_cases hkg : k = g
          · obtain rfl : g = k := hkg.symm
            exact absurd (HRK.out.symm.trans HR.out) (by decide)
          · obtain ⟨i, rfl⟩ : ∃ i, k = i + 1 := ⟨k - 1, by omega⟩
            have hj : i < 40 := by omega
            have hji : (i : Int) < 40 := by omega
            have hgi : (g : Int) ≤ (i : Int) := by omega
            have ci : w11.cell? ⟨w10.heap.size, i, none⟩ = some (.int .i64 (dgt z i : Int)) := by
              rw [cell_of_row _ _ _ _ _ _ HH5_11.out, rowV_get _ _ hj]
            have hlead := lead z i
            have hd9 := dgt_lt z i
            obtain ⟨a, ha⟩ : ∃ a, z / 10 ^ (i + 1) = a := ⟨_, rfl⟩
            obtain ⟨b, hb⟩ : ∃ b, z / 10 ^ i = b := ⟨_, rfl⟩
            obtain ⟨d, hd⟩ : ∃ d, dgt z i = d := ⟨_, rfl⟩
            obtain ⟨c, hc⟩ : ∃ c, 10 * a = c := ⟨_, rfl⟩
            rw [ha, hb, hd] at hlead
            rw [hd] at ci hd9
            rw [ha] at HRK ⊢
            have HBE : Hid (z / 10 ^ i = b) := Lib.hid hb
            have hra : R (-(a : Nat) : Int) := (inR_iff _).1 HRK.out
            have hra2 := hra
            unfold R at hra2
            have hrd : R (-(d : Int)) := by unfold R; omega
            have HM1 := HM.out _ hra
            rw [show (-(a : Nat) : Int) * 10 = -(c : Int) by omega] at HM1
            have hii2 : ((i + 1 : Nat) : Int) - 1 = (i : Int) := by omega
            rw [hii2]
            have vi : IntKind.i64.wrap ((i : Int) - 1) = (i : Int) - 1 := IntWalk.i64_in _ (by omega)
            have hkg2 : Hid (g ≤ i) := Lib.hid (by omega)
            by_cases hR1 : R (-(c : Int))
            · have hR1' := hR1
              unfold R at hR1'
              have hA1 := HAD.out _ _ hR1 hrd
              rw [show -(c : Int) + -(d : Int) = -(b : Int) by omega] at hA1
              have v1 : IntKind.i64.wrap (10 * -(a : Int)) = -(c : Int) := by rw [IntWalk.i64_in _ (by omega)]; omega
              have v2 : IntKind.i64.wrap (-(10 * (a : Int))) = -(c : Int) := by rw [IntWalk.i64_in _ (by omega)]; omega
              have v3 : IntKind.i64.wrap (-(d : Int)) = -(d : Int) := IntWalk.i64_in _ (by omega)
              rw [show inR (-(c : Int)) = true from (inR_iff _).2 hR1] at HM1
              have HM2 := Lib.hid HM1
              by_cases hR2 : R (-(b : Int))
              · have hR2' := hR2
                unfold R at hR2'
                rw [show inR (-(b : Int)) = true from (inR_iff _).2 hR2] at hA1
                have HA2 := Lib.hid hA1
                have v4 : IntKind.i64.wrap (-(c : Int) + -(d : Int)) = -(b : Int) := by rw [IntWalk.i64_in _ (by omega)]; omega
                have HNX : Hid (inR (-(b : Int)) = true) := Lib.hid ((inR_iff _).2 hR2)
                clear HM1 hA1 hlead ha hb hd hc hra hrd hR1 hR2 hra2 hkg
                go_wp2_with fail
                refine (HM2.out _).mono ?_; rintro e w' ⟨rfl, rfl⟩
                go_wp2_with fail
                refine (HA2.out _).mono ?_; rintro e w' ⟨rfl, rfl⟩
                go_wp2_with fail
                go_round
                case rel => exact ⟨i, hkg2.out, by omega, by go_num, by rw [HBE.out], by rw [HBE.out]; exact HNX⟩
                case measure => simp [intOf]; try omega
              · rw [show inR (-(b : Int)) = false by rw [Bool.eq_false_iff]; exact fun q => hR2 ((inR_iff _).1 q)] at hA1
                have HA2 := Lib.hid hA1
                have HBAD := Lib.hid hR2
                clear HM1 hA1 hlead ha hb hd hc hra hrd hR1 hR2 hra2 hkg
                go_wp2_with fail
                refine (HM2.out _).mono ?_; rintro e w' ⟨rfl, rfl⟩
                go_wp2_with fail
                refine (HA2.out _).mono ?_; rintro e w' ⟨rfl, rfl⟩
                go_wp2_with fail
                refine bodyPost_ret (v := .tuple #[.agg #[.int .i64 0, .int .i64 0], .int .i64 20]) (by simp [results, Tryd.results7, go_sem, c2_0, c2_1, f2_0, f2_1]; try rfl) rfl ?_
                exact ⟨rfl, by first | (go_grown; done) | exact HW11.out⟩
            · rw [show inR (-(c : Int)) = false by rw [Bool.eq_false_iff]; exact fun q => hR1 ((inR_iff _).1 q)] at HM1
              have HM2 := Lib.hid HM1
              have v3 : IntKind.i64.wrap (-(d : Int)) = -(d : Int) := IntWalk.i64_in _ (by omega)
              clear HM1 hlead ha hb hd hc hra hrd hR1 hra2 hkg
              go_wp2_with fail
              refine (HM2.out _).mono ?_; rintro e w' ⟨rfl, rfl⟩
              go_wp2_with fail
              refine bodyPost_ret (v := .tuple #[.agg #[.int .i64 0, .int .i64 0], .int .i64 20]) (by simp [results, Tryd.results7, go_sem, c2_0, c2_1, f2_0, f2_1]; try rfl) rfl ?_
              exact ⟨rfl, by first | (go_grown; done) | exact HW11.out⟩
end Go.Proofs.YtgljbhbpjobnbaaDoor
