/- scalar's of: what it gives, kind by kind. -/
import Derived.Test.YtpkkejcndmcbiaaGreatDoorId
import Derived.Handy
import Derived.Laws.CopyOwn
set_option linter.unusedSimpArgs false
set_option linter.unusedVariables false
namespace Go.Proofs.YtpkkejcndmcbiaaGreatDoor
open Go.RowKit Go.Shelf
set_option maxRecDepth 100000 in
set_option maxHeartbeats 4000000 in
theorem of_low (w : World) :
    Calls Tryz.prog 13 #[.int .u8 0] w fun e w' => e = .returned (.tuple #[.agg #[.nilFunc, .nilFunc, .nilFunc, .bool false], .int .i64 2]) ∧ Below w.heap.size w w' := by
  go_enter Tryz.func13, Tryz.ntmps13
  have HL : ((w.alloc (.cells #[.nilFunc, .nilFunc, .nilFunc, .bool false] 42 (0, 0))).alloc (.cells #[.int .u32 0, .int .i32 0, .int .u32 0, .int .i32 0, .slice none 0 0] 70 (0, 0))).heap[w.heap.size]? = some (.cells #[.nilFunc, .nilFunc, .nilFunc, .bool false] 42 (0, 0)) := (heap_old (heap_new _ _ _ rfl))
  have HK0 := Lib.hid HL
  clear HL
  go_wp2_with (refine wpList_store_row rfl 42 _ _ rfl w.heap.size #[.nilFunc, .nilFunc, .nilFunc, .bool false] rfl rfl 42 #[.nilFunc, .nilFunc, .nilFunc, .bool false] HK0.out (by kernel_rfl) rfl (by kernel_rfl) ?_)
  have HR := setRow_heap _ _ _ #[.nilFunc, .nilFunc, .nilFunc, .bool false] _ _ HK0.out
  obtain ⟨wf, hwf⟩ : ∃ wf : World, wf = World.setRow ((w.alloc (.cells #[.nilFunc, .nilFunc, .nilFunc, .bool false] 42 (0, 0))).alloc (.cells #[.int .u32 0, .int .i32 0, .int .u32 0, .int .i32 0, .slice none 0 0] 70 (0, 0))) w.heap.size #[.nilFunc, .nilFunc, .nilFunc, .bool false] := ⟨_, rfl⟩
  rw [← hwf] at HR
  rw [← hwf]
  have r0 : wf.cell? ⟨w.heap.size, 0, none⟩ = some (.nilFunc) := (Lib.cell_of_heap HR 0).trans rfl
  have r1 : wf.cell? ⟨w.heap.size, 1, none⟩ = some (.nilFunc) := (Lib.cell_of_heap HR 1).trans rfl
  have r2 : wf.cell? ⟨w.heap.size, 2, none⟩ = some (.nilFunc) := (Lib.cell_of_heap HR 2).trans rfl
  have r3 : wf.cell? ⟨w.heap.size, 3, none⟩ = some (.bool false) := (Lib.cell_of_heap HR 3).trans rfl
  refine bodyPost_ret (v := .tuple #[.agg #[.nilFunc, .nilFunc, .nilFunc, .bool false], .int .i64 2]) (by simp [results, Tryz.results13, go_sem, r0, r1, r2, r3]; try rfl) rfl ?_
  rw [hwf]
  exact ⟨rfl, below_setRow (((Below.refl _ _).alloc (Nat.le_refl _) _).alloc (by simp) _) (Nat.le_refl _) _⟩
set_option maxRecDepth 100000 in
set_option maxHeartbeats 4000000 in
theorem of_high (k : Int) (h1 : 9 ≤ k) (h2 : k ≤ 255) (w : World) :
    Calls Tryz.prog 13 #[.int .u8 k] w fun e w' => e = .returned (.tuple #[.agg #[.nilFunc, .nilFunc, .nilFunc, .bool false], .int .i64 2]) ∧ Below w.heap.size w w' := by
  have hk1 : decide (k < 1) = false := by simp; omega
  have hk2 : decide (8 < k) = true := by simp; omega
  go_enter Tryz.func13, Tryz.ntmps13
  go_wp2_with fail
  refine (all_first (w.heap.size + 1) _ _ (heap_new _ _ _ (by simp))).mono ?_; rintro e w1 ⟨⟨l1, rfl, g1, hp1⟩, hb1⟩
  have hz1 : w.heap.size + 1 < w1.heap.size := heap_lt g1
  have k0 : w1.heap[w.heap.size]? = some (.cells #[.nilFunc, .nilFunc, .nilFunc, .bool false] 42 (0, 0)) := (hb1.block _ (by omega)).trans (heap_old (heap_new _ _ _ rfl))
  have hbw1 : Below w.heap.size w w1 := (((Below.refl _ _).alloc (Nat.le_refl _) _).alloc (by simp) _).trans (hb1.mono (by omega))
  have hq1 := hp1
  obtain ⟨lb, p2, p4, q4, p5, p6, p7, q7, p8, rfl, h0, hn, hc1, hc2, hc3, hc4, hc5, hc6, hc7, hc8⟩ := hp1
  have HQ := Lib.hid (And.intro hq1 (And.intro g1 hbw1))
  have HK0 := Lib.hid k0
  clear hc1 hc2 hc3 hc4 hc5 hc6 hc7 hc8 hq1 g1 hbw1 k0 h0 hn
  clear hb1
  go_wp2_with (refine wpList_store_row rfl 42 _ _ rfl w.heap.size #[.nilFunc, .nilFunc, .nilFunc, .bool false] rfl rfl 42 #[.nilFunc, .nilFunc, .nilFunc, .bool false] HK0.out (by kernel_rfl) rfl (by kernel_rfl) ?_)
  have HR := setRow_heap _ _ _ #[.nilFunc, .nilFunc, .nilFunc, .bool false] _ _ HK0.out
  obtain ⟨wf, hwf⟩ : ∃ wf : World, wf = World.setRow (w1) w.heap.size #[.nilFunc, .nilFunc, .nilFunc, .bool false] := ⟨_, rfl⟩
  rw [← hwf] at HR
  rw [← hwf]
  have r0 : wf.cell? ⟨w.heap.size, 0, none⟩ = some (.nilFunc) := (Lib.cell_of_heap HR 0).trans rfl
  have r1 : wf.cell? ⟨w.heap.size, 1, none⟩ = some (.nilFunc) := (Lib.cell_of_heap HR 1).trans rfl
  have r2 : wf.cell? ⟨w.heap.size, 2, none⟩ = some (.nilFunc) := (Lib.cell_of_heap HR 2).trans rfl
  have r3 : wf.cell? ⟨w.heap.size, 3, none⟩ = some (.bool false) := (Lib.cell_of_heap HR 3).trans rfl
  refine bodyPost_ret (v := .tuple #[.agg #[.nilFunc, .nilFunc, .nilFunc, .bool false], .int .i64 2]) (by simp [results, Tryz.results13, go_sem, r0, r1, r2, r3]; try rfl) rfl ?_
  rw [hwf]
  exact ⟨rfl, below_setRow HQ.out.2.2 (Nat.le_refl _) _⟩
set_option maxRecDepth 100000 in
set_option maxHeartbeats 4000000 in
theorem of_1 (w : World) :
    Calls Tryz.prog 13 #[.int .u8 1] w fun e w' => (e = .returned (.tuple #[.agg #[.func (.func 29) #[] #[], .func (.func 30) #[] #[], .func (.func 32) #[] #[], .bool false], .int .i64 0])) ∧ Below w.heap.size w w' := by
  go_enter Tryz.func13, Tryz.ntmps13
  go_wp2_with fail
  refine (all_first (w.heap.size + 1) _ _ (heap_new _ _ _ (by simp))).mono ?_; rintro e w1 ⟨⟨l1, rfl, h1, hp1⟩, hb1⟩
  have hz1 : w.heap.size + 1 < w1.heap.size := heap_lt h1
  have k0 : w1.heap[w.heap.size]? = some (.cells #[.nilFunc, .nilFunc, .nilFunc, .bool false] 42 (0, 0)) := (hb1.block _ (by omega)).trans (heap_old (heap_new _ _ _ rfl))
  have hbw1 : Below w.heap.size w w1 := (((Below.refl _ _).alloc (Nat.le_refl _) _).alloc (by simp) _).trans (hb1.mono (by omega))
  have hq1 := hp1
  obtain ⟨lb, p2, p4, q4, p5, p6, p7, q7, p8, rfl, h0, hn, hc1, hc2, hc3, hc4, hc5, hc6, hc7, hc8⟩ := hp1
  have HQ := Lib.hid (And.intro hq1 (And.intro h1 hbw1))
  have HK0 := Lib.hid k0
  clear hc1 hc2 hc3 hc4 hc5 hc6 hc7 hc8 hq1 h1 hbw1 k0 h0 hn
  clear hb1
  go_wp2_with fail
  refine (all_again (w.heap.size + 1) 1 (by omega) _ w1 HQ.out.2.1 HQ.out.1).mono ?_; rintro e w2 ⟨⟨rfl, h2, hp2⟩, hb2⟩
  have k2 : w2.heap[w.heap.size]? = some (.cells #[.nilFunc, .nilFunc, .nilFunc, .bool false] 42 (0, 0)) := (hb2.block _ (by omega)).trans HK0.out
  obtain ⟨lb', p2, p4, q4, p5, p6, p7, q7, p8, he, h0, hn, hc1, hc2, hc3, hc4, hc5, hc6, hc7, hc8⟩ := hp2
  obtain rfl : lb = lb' := by injection he with he _ _; injection he with he; injection he
  have HB := Lib.hid (HQ.out.2.2.trans (hb2.mono (by omega)))
  have HK := Lib.hid k2
  have HC := Lib.hid (And.intro hc1 (And.intro hc2 (And.intro hc3 (And.intro hc4 (And.intro hc5 (And.intro hc6 (And.intro hc7 hc8)))))))
  have HN := Lib.hid hn
  have hlw : w.heap.size < lb := by have := hn.1; omega
  have d0 : w2.cell? ⟨lb, 0, none⟩ = some (.func (.func 29) #[] #[]) := (Lib.cell_of_heap h0 0).trans rfl
  have d1 : w2.cell? ⟨lb, 1, none⟩ = some (.func (.func 30) #[] #[]) := (Lib.cell_of_heap h0 1).trans rfl
  have d2 : w2.cell? ⟨lb, 2, none⟩ = some (.func (.func 32) #[] #[]) := (Lib.cell_of_heap h0 2).trans rfl
  have d3 : w2.cell? ⟨lb, 3, none⟩ = some (.bool false) := (Lib.cell_of_heap h0 3).trans rfl
  clear he h0 hn hc1 hc2 hc3 hc4 hc5 hc6 hc7 hc8 hb2 h2 k2
  go_wp2_with (refine wpList_store_row rfl 42 _ _ rfl w.heap.size #[.func (.func 29) #[] #[], .func (.func 30) #[] #[], .func (.func 32) #[] #[], .bool false] rfl rfl 42 #[.nilFunc, .nilFunc, .nilFunc, .bool false] HK.out (by kernel_rfl) rfl (by kernel_rfl) ?_)
  have HR := setRow_heap _ _ _ #[.func (.func 29) #[] #[], .func (.func 30) #[] #[], .func (.func 32) #[] #[], .bool false] _ _ HK.out
  obtain ⟨wf, hwf⟩ : ∃ wf : World, wf = World.setRow (w2) w.heap.size #[.func (.func 29) #[] #[], .func (.func 30) #[] #[], .func (.func 32) #[] #[], .bool false] := ⟨_, rfl⟩
  rw [← hwf] at HR
  rw [← hwf]
  have r0 : wf.cell? ⟨w.heap.size, 0, none⟩ = some (.func (.func 29) #[] #[]) := (Lib.cell_of_heap HR 0).trans rfl
  have r1 : wf.cell? ⟨w.heap.size, 1, none⟩ = some (.func (.func 30) #[] #[]) := (Lib.cell_of_heap HR 1).trans rfl
  have r2 : wf.cell? ⟨w.heap.size, 2, none⟩ = some (.func (.func 32) #[] #[]) := (Lib.cell_of_heap HR 2).trans rfl
  have r3 : wf.cell? ⟨w.heap.size, 3, none⟩ = some (.bool false) := (Lib.cell_of_heap HR 3).trans rfl
  refine bodyPost_ret (v := .tuple #[.agg #[.func (.func 29) #[] #[], .func (.func 30) #[] #[], .func (.func 32) #[] #[], .bool false], .int .i64 0]) (by simp [results, Tryz.results13, go_sem, r0, r1, r2, r3]; try rfl) rfl ?_
  rw [hwf]
  have kc : ∀ p v, w2.cell? ⟨p, 0, none⟩ = some v → w.heap.size < p → (w2.setRow w.heap.size #[.func (.func 29) #[] #[], .func (.func 30) #[] #[], .func (.func 32) #[] #[], .bool false]).cell? ⟨p, 0, none⟩ = some v := fun p v h hp => by rw [cell_setRow_other _ _ _ _ (by show p ≠ _; omega)]; exact h
  have HCO := HC.out
  obtain ⟨n0, n1, n2, n3, n4, n5, n6, n7, n8⟩ := HN.out
  exact ⟨rfl, below_setRow HB.out (Nat.le_refl _) _⟩
set_option maxRecDepth 100000 in
set_option maxHeartbeats 4000000 in
theorem of_2 (w : World) :
    Calls Tryz.prog 13 #[.int .u8 2] w fun e w' => (∃ p2 : Nat, e = .returned (.tuple #[.agg #[.func (.func 52) #[] #[.pointer (some ⟨p2, 0, none⟩)], .func (.func 27) #[] #[], Value.nilFunc, .bool true], .int .i64 0]) ∧ w'.cell? ⟨p2, 0, none⟩ = some (.func (.func 34) #[] #[])) ∧ Below w.heap.size w w' := by
  go_enter Tryz.func13, Tryz.ntmps13
  go_wp2_with fail
  refine (all_first (w.heap.size + 1) _ _ (heap_new _ _ _ (by simp))).mono ?_; rintro e w1 ⟨⟨l1, rfl, h1, hp1⟩, hb1⟩
  have hz1 : w.heap.size + 1 < w1.heap.size := heap_lt h1
  have k0 : w1.heap[w.heap.size]? = some (.cells #[.nilFunc, .nilFunc, .nilFunc, .bool false] 42 (0, 0)) := (hb1.block _ (by omega)).trans (heap_old (heap_new _ _ _ rfl))
  have hbw1 : Below w.heap.size w w1 := (((Below.refl _ _).alloc (Nat.le_refl _) _).alloc (by simp) _).trans (hb1.mono (by omega))
  have hq1 := hp1
  obtain ⟨lb, p2, p4, q4, p5, p6, p7, q7, p8, rfl, h0, hn, hc1, hc2, hc3, hc4, hc5, hc6, hc7, hc8⟩ := hp1
  have HQ := Lib.hid (And.intro hq1 (And.intro h1 hbw1))
  have HK0 := Lib.hid k0
  clear hc1 hc2 hc3 hc4 hc5 hc6 hc7 hc8 hq1 h1 hbw1 k0 h0 hn
  clear hb1
  go_wp2_with fail
  refine (all_again (w.heap.size + 1) 1 (by omega) _ w1 HQ.out.2.1 HQ.out.1).mono ?_; rintro e w2 ⟨⟨rfl, h2, hp2⟩, hb2⟩
  have k2 : w2.heap[w.heap.size]? = some (.cells #[.nilFunc, .nilFunc, .nilFunc, .bool false] 42 (0, 0)) := (hb2.block _ (by omega)).trans HK0.out
  obtain ⟨lb', p2, p4, q4, p5, p6, p7, q7, p8, he, h0, hn, hc1, hc2, hc3, hc4, hc5, hc6, hc7, hc8⟩ := hp2
  obtain rfl : lb = lb' := by injection he with he _ _; injection he with he; injection he
  have HB := Lib.hid (HQ.out.2.2.trans (hb2.mono (by omega)))
  have HK := Lib.hid k2
  have HC := Lib.hid (And.intro hc1 (And.intro hc2 (And.intro hc3 (And.intro hc4 (And.intro hc5 (And.intro hc6 (And.intro hc7 hc8)))))))
  have HN := Lib.hid hn
  have hlw : w.heap.size < lb := by have := hn.1; omega
  have d0 : w2.cell? ⟨lb, 4, none⟩ = some (.func (.func 52) #[] #[.pointer (some ⟨p2, 0, none⟩)]) := (Lib.cell_of_heap h0 4).trans rfl
  have d1 : w2.cell? ⟨lb, 5, none⟩ = some (.func (.func 27) #[] #[]) := (Lib.cell_of_heap h0 5).trans rfl
  have d2 : w2.cell? ⟨lb, 6, none⟩ = some (Value.nilFunc) := (Lib.cell_of_heap h0 6).trans rfl
  have d3 : w2.cell? ⟨lb, 7, none⟩ = some (.bool true) := (Lib.cell_of_heap h0 7).trans rfl
  clear he h0 hn hc1 hc2 hc3 hc4 hc5 hc6 hc7 hc8 hb2 h2 k2
  go_wp2_with (refine wpList_store_row rfl 42 _ _ rfl w.heap.size #[.func (.func 52) #[] #[.pointer (some ⟨p2, 0, none⟩)], .func (.func 27) #[] #[], Value.nilFunc, .bool true] rfl rfl 42 #[.nilFunc, .nilFunc, .nilFunc, .bool false] HK.out (by kernel_rfl) rfl (by kernel_rfl) ?_)
  have HR := setRow_heap _ _ _ #[.func (.func 52) #[] #[.pointer (some ⟨p2, 0, none⟩)], .func (.func 27) #[] #[], Value.nilFunc, .bool true] _ _ HK.out
  obtain ⟨wf, hwf⟩ : ∃ wf : World, wf = World.setRow (w2) w.heap.size #[.func (.func 52) #[] #[.pointer (some ⟨p2, 0, none⟩)], .func (.func 27) #[] #[], Value.nilFunc, .bool true] := ⟨_, rfl⟩
  rw [← hwf] at HR
  rw [← hwf]
  have r0 : wf.cell? ⟨w.heap.size, 0, none⟩ = some (.func (.func 52) #[] #[.pointer (some ⟨p2, 0, none⟩)]) := (Lib.cell_of_heap HR 0).trans rfl
  have r1 : wf.cell? ⟨w.heap.size, 1, none⟩ = some (.func (.func 27) #[] #[]) := (Lib.cell_of_heap HR 1).trans rfl
  have r2 : wf.cell? ⟨w.heap.size, 2, none⟩ = some (Value.nilFunc) := (Lib.cell_of_heap HR 2).trans rfl
  have r3 : wf.cell? ⟨w.heap.size, 3, none⟩ = some (.bool true) := (Lib.cell_of_heap HR 3).trans rfl
  refine bodyPost_ret (v := .tuple #[.agg #[.func (.func 52) #[] #[.pointer (some ⟨p2, 0, none⟩)], .func (.func 27) #[] #[], Value.nilFunc, .bool true], .int .i64 0]) (by simp [results, Tryz.results13, go_sem, r0, r1, r2, r3]; try rfl) rfl ?_
  rw [hwf]
  have kc : ∀ p v, w2.cell? ⟨p, 0, none⟩ = some v → w.heap.size < p → (w2.setRow w.heap.size #[.func (.func 52) #[] #[.pointer (some ⟨p2, 0, none⟩)], .func (.func 27) #[] #[], Value.nilFunc, .bool true]).cell? ⟨p, 0, none⟩ = some v := fun p v h hp => by rw [cell_setRow_other _ _ _ _ (by show p ≠ _; omega)]; exact h
  have HCO := HC.out
  obtain ⟨n0, n1, n2, n3, n4, n5, n6, n7, n8⟩ := HN.out
  exact ⟨⟨_, rfl, kc _ _ HCO.1 (by omega)⟩, below_setRow HB.out (Nat.le_refl _) _⟩
set_option maxRecDepth 100000 in
set_option maxHeartbeats 4000000 in
theorem of_3 (w : World) :
    Calls Tryz.prog 13 #[.int .u8 3] w fun e w' => (e = .returned (.tuple #[.agg #[.func (.func 35) #[] #[], Value.nilFunc, Value.nilFunc, .bool false], .int .i64 0])) ∧ Below w.heap.size w w' := by
  go_enter Tryz.func13, Tryz.ntmps13
  go_wp2_with fail
  refine (all_first (w.heap.size + 1) _ _ (heap_new _ _ _ (by simp))).mono ?_; rintro e w1 ⟨⟨l1, rfl, h1, hp1⟩, hb1⟩
  have hz1 : w.heap.size + 1 < w1.heap.size := heap_lt h1
  have k0 : w1.heap[w.heap.size]? = some (.cells #[.nilFunc, .nilFunc, .nilFunc, .bool false] 42 (0, 0)) := (hb1.block _ (by omega)).trans (heap_old (heap_new _ _ _ rfl))
  have hbw1 : Below w.heap.size w w1 := (((Below.refl _ _).alloc (Nat.le_refl _) _).alloc (by simp) _).trans (hb1.mono (by omega))
  have hq1 := hp1
  obtain ⟨lb, p2, p4, q4, p5, p6, p7, q7, p8, rfl, h0, hn, hc1, hc2, hc3, hc4, hc5, hc6, hc7, hc8⟩ := hp1
  have HQ := Lib.hid (And.intro hq1 (And.intro h1 hbw1))
  have HK0 := Lib.hid k0
  clear hc1 hc2 hc3 hc4 hc5 hc6 hc7 hc8 hq1 h1 hbw1 k0 h0 hn
  clear hb1
  go_wp2_with fail
  refine (all_again (w.heap.size + 1) 1 (by omega) _ w1 HQ.out.2.1 HQ.out.1).mono ?_; rintro e w2 ⟨⟨rfl, h2, hp2⟩, hb2⟩
  have k2 : w2.heap[w.heap.size]? = some (.cells #[.nilFunc, .nilFunc, .nilFunc, .bool false] 42 (0, 0)) := (hb2.block _ (by omega)).trans HK0.out
  obtain ⟨lb', p2, p4, q4, p5, p6, p7, q7, p8, he, h0, hn, hc1, hc2, hc3, hc4, hc5, hc6, hc7, hc8⟩ := hp2
  obtain rfl : lb = lb' := by injection he with he _ _; injection he with he; injection he
  have HB := Lib.hid (HQ.out.2.2.trans (hb2.mono (by omega)))
  have HK := Lib.hid k2
  have HC := Lib.hid (And.intro hc1 (And.intro hc2 (And.intro hc3 (And.intro hc4 (And.intro hc5 (And.intro hc6 (And.intro hc7 hc8)))))))
  have HN := Lib.hid hn
  have hlw : w.heap.size < lb := by have := hn.1; omega
  have d0 : w2.cell? ⟨lb, 8, none⟩ = some (.func (.func 35) #[] #[]) := (Lib.cell_of_heap h0 8).trans rfl
  have d1 : w2.cell? ⟨lb, 9, none⟩ = some (Value.nilFunc) := (Lib.cell_of_heap h0 9).trans rfl
  have d2 : w2.cell? ⟨lb, 10, none⟩ = some (Value.nilFunc) := (Lib.cell_of_heap h0 10).trans rfl
  have d3 : w2.cell? ⟨lb, 11, none⟩ = some (.bool false) := (Lib.cell_of_heap h0 11).trans rfl
  clear he h0 hn hc1 hc2 hc3 hc4 hc5 hc6 hc7 hc8 hb2 h2 k2
  go_wp2_with (refine wpList_store_row rfl 42 _ _ rfl w.heap.size #[.func (.func 35) #[] #[], Value.nilFunc, Value.nilFunc, .bool false] rfl rfl 42 #[.nilFunc, .nilFunc, .nilFunc, .bool false] HK.out (by kernel_rfl) rfl (by kernel_rfl) ?_)
  have HR := setRow_heap _ _ _ #[.func (.func 35) #[] #[], Value.nilFunc, Value.nilFunc, .bool false] _ _ HK.out
  obtain ⟨wf, hwf⟩ : ∃ wf : World, wf = World.setRow (w2) w.heap.size #[.func (.func 35) #[] #[], Value.nilFunc, Value.nilFunc, .bool false] := ⟨_, rfl⟩
  rw [← hwf] at HR
  rw [← hwf]
  have r0 : wf.cell? ⟨w.heap.size, 0, none⟩ = some (.func (.func 35) #[] #[]) := (Lib.cell_of_heap HR 0).trans rfl
  have r1 : wf.cell? ⟨w.heap.size, 1, none⟩ = some (Value.nilFunc) := (Lib.cell_of_heap HR 1).trans rfl
  have r2 : wf.cell? ⟨w.heap.size, 2, none⟩ = some (Value.nilFunc) := (Lib.cell_of_heap HR 2).trans rfl
  have r3 : wf.cell? ⟨w.heap.size, 3, none⟩ = some (.bool false) := (Lib.cell_of_heap HR 3).trans rfl
  refine bodyPost_ret (v := .tuple #[.agg #[.func (.func 35) #[] #[], Value.nilFunc, Value.nilFunc, .bool false], .int .i64 0]) (by simp [results, Tryz.results13, go_sem, r0, r1, r2, r3]; try rfl) rfl ?_
  rw [hwf]
  have kc : ∀ p v, w2.cell? ⟨p, 0, none⟩ = some v → w.heap.size < p → (w2.setRow w.heap.size #[.func (.func 35) #[] #[], Value.nilFunc, Value.nilFunc, .bool false]).cell? ⟨p, 0, none⟩ = some v := fun p v h hp => by rw [cell_setRow_other _ _ _ _ (by show p ≠ _; omega)]; exact h
  have HCO := HC.out
  obtain ⟨n0, n1, n2, n3, n4, n5, n6, n7, n8⟩ := HN.out
  exact ⟨rfl, below_setRow HB.out (Nat.le_refl _) _⟩
set_option maxRecDepth 100000 in
set_option maxHeartbeats 4000000 in
theorem of_4 (w : World) :
    Calls Tryz.prog 13 #[.int .u8 4] w fun e w' => (∃ q4 p4 : Nat, e = .returned (.tuple #[.agg #[.func (.func 53) #[] #[.pointer (some ⟨q4, 0, none⟩)], .func (.func 27) #[] #[], Value.nilFunc, .bool true], .int .i64 0]) ∧ w'.cell? ⟨q4, 0, none⟩ = some (.func (.func 52) #[] #[.pointer (some ⟨p4, 0, none⟩)]) ∧ w'.cell? ⟨p4, 0, none⟩ = some (.func (.func 37) #[] #[])) ∧ Below w.heap.size w w' := by
  go_enter Tryz.func13, Tryz.ntmps13
  go_wp2_with fail
  refine (all_first (w.heap.size + 1) _ _ (heap_new _ _ _ (by simp))).mono ?_; rintro e w1 ⟨⟨l1, rfl, h1, hp1⟩, hb1⟩
  have hz1 : w.heap.size + 1 < w1.heap.size := heap_lt h1
  have k0 : w1.heap[w.heap.size]? = some (.cells #[.nilFunc, .nilFunc, .nilFunc, .bool false] 42 (0, 0)) := (hb1.block _ (by omega)).trans (heap_old (heap_new _ _ _ rfl))
  have hbw1 : Below w.heap.size w w1 := (((Below.refl _ _).alloc (Nat.le_refl _) _).alloc (by simp) _).trans (hb1.mono (by omega))
  have hq1 := hp1
  obtain ⟨lb, p2, p4, q4, p5, p6, p7, q7, p8, rfl, h0, hn, hc1, hc2, hc3, hc4, hc5, hc6, hc7, hc8⟩ := hp1
  have HQ := Lib.hid (And.intro hq1 (And.intro h1 hbw1))
  have HK0 := Lib.hid k0
  clear hc1 hc2 hc3 hc4 hc5 hc6 hc7 hc8 hq1 h1 hbw1 k0 h0 hn
  clear hb1
  go_wp2_with fail
  refine (all_again (w.heap.size + 1) 1 (by omega) _ w1 HQ.out.2.1 HQ.out.1).mono ?_; rintro e w2 ⟨⟨rfl, h2, hp2⟩, hb2⟩
  have k2 : w2.heap[w.heap.size]? = some (.cells #[.nilFunc, .nilFunc, .nilFunc, .bool false] 42 (0, 0)) := (hb2.block _ (by omega)).trans HK0.out
  obtain ⟨lb', p2, p4, q4, p5, p6, p7, q7, p8, he, h0, hn, hc1, hc2, hc3, hc4, hc5, hc6, hc7, hc8⟩ := hp2
  obtain rfl : lb = lb' := by injection he with he _ _; injection he with he; injection he
  have HB := Lib.hid (HQ.out.2.2.trans (hb2.mono (by omega)))
  have HK := Lib.hid k2
  have HC := Lib.hid (And.intro hc1 (And.intro hc2 (And.intro hc3 (And.intro hc4 (And.intro hc5 (And.intro hc6 (And.intro hc7 hc8)))))))
  have HN := Lib.hid hn
  have hlw : w.heap.size < lb := by have := hn.1; omega
  have d0 : w2.cell? ⟨lb, 12, none⟩ = some (.func (.func 53) #[] #[.pointer (some ⟨q4, 0, none⟩)]) := (Lib.cell_of_heap h0 12).trans rfl
  have d1 : w2.cell? ⟨lb, 13, none⟩ = some (.func (.func 27) #[] #[]) := (Lib.cell_of_heap h0 13).trans rfl
  have d2 : w2.cell? ⟨lb, 14, none⟩ = some (Value.nilFunc) := (Lib.cell_of_heap h0 14).trans rfl
  have d3 : w2.cell? ⟨lb, 15, none⟩ = some (.bool true) := (Lib.cell_of_heap h0 15).trans rfl
  clear he h0 hn hc1 hc2 hc3 hc4 hc5 hc6 hc7 hc8 hb2 h2 k2
  go_wp2_with (refine wpList_store_row rfl 42 _ _ rfl w.heap.size #[.func (.func 53) #[] #[.pointer (some ⟨q4, 0, none⟩)], .func (.func 27) #[] #[], Value.nilFunc, .bool true] rfl rfl 42 #[.nilFunc, .nilFunc, .nilFunc, .bool false] HK.out (by kernel_rfl) rfl (by kernel_rfl) ?_)
  have HR := setRow_heap _ _ _ #[.func (.func 53) #[] #[.pointer (some ⟨q4, 0, none⟩)], .func (.func 27) #[] #[], Value.nilFunc, .bool true] _ _ HK.out
  obtain ⟨wf, hwf⟩ : ∃ wf : World, wf = World.setRow (w2) w.heap.size #[.func (.func 53) #[] #[.pointer (some ⟨q4, 0, none⟩)], .func (.func 27) #[] #[], Value.nilFunc, .bool true] := ⟨_, rfl⟩
  rw [← hwf] at HR
  rw [← hwf]
  have r0 : wf.cell? ⟨w.heap.size, 0, none⟩ = some (.func (.func 53) #[] #[.pointer (some ⟨q4, 0, none⟩)]) := (Lib.cell_of_heap HR 0).trans rfl
  have r1 : wf.cell? ⟨w.heap.size, 1, none⟩ = some (.func (.func 27) #[] #[]) := (Lib.cell_of_heap HR 1).trans rfl
  have r2 : wf.cell? ⟨w.heap.size, 2, none⟩ = some (Value.nilFunc) := (Lib.cell_of_heap HR 2).trans rfl
  have r3 : wf.cell? ⟨w.heap.size, 3, none⟩ = some (.bool true) := (Lib.cell_of_heap HR 3).trans rfl
  refine bodyPost_ret (v := .tuple #[.agg #[.func (.func 53) #[] #[.pointer (some ⟨q4, 0, none⟩)], .func (.func 27) #[] #[], Value.nilFunc, .bool true], .int .i64 0]) (by simp [results, Tryz.results13, go_sem, r0, r1, r2, r3]; try rfl) rfl ?_
  rw [hwf]
  have kc : ∀ p v, w2.cell? ⟨p, 0, none⟩ = some v → w.heap.size < p → (w2.setRow w.heap.size #[.func (.func 53) #[] #[.pointer (some ⟨q4, 0, none⟩)], .func (.func 27) #[] #[], Value.nilFunc, .bool true]).cell? ⟨p, 0, none⟩ = some v := fun p v h hp => by rw [cell_setRow_other _ _ _ _ (by show p ≠ _; omega)]; exact h
  have HCO := HC.out
  obtain ⟨n0, n1, n2, n3, n4, n5, n6, n7, n8⟩ := HN.out
  exact ⟨⟨_, _, rfl, kc _ _ HCO.2.2.1 (by omega), kc _ _ HCO.2.1 (by omega)⟩, below_setRow HB.out (Nat.le_refl _) _⟩
set_option maxRecDepth 100000 in
set_option maxHeartbeats 4000000 in
theorem of_5 (w : World) :
    Calls Tryz.prog 13 #[.int .u8 5] w fun e w' => (∃ p5 : Nat, e = .returned (.tuple #[.agg #[.func (.func 52) #[] #[.pointer (some ⟨p5, 0, none⟩)], .func (.func 39) #[] #[], Value.nilFunc, .bool false], .int .i64 0]) ∧ w'.cell? ⟨p5, 0, none⟩ = some (.func (.func 38) #[] #[])) ∧ Below w.heap.size w w' := by
  go_enter Tryz.func13, Tryz.ntmps13
  go_wp2_with fail
  refine (all_first (w.heap.size + 1) _ _ (heap_new _ _ _ (by simp))).mono ?_; rintro e w1 ⟨⟨l1, rfl, h1, hp1⟩, hb1⟩
  have hz1 : w.heap.size + 1 < w1.heap.size := heap_lt h1
  have k0 : w1.heap[w.heap.size]? = some (.cells #[.nilFunc, .nilFunc, .nilFunc, .bool false] 42 (0, 0)) := (hb1.block _ (by omega)).trans (heap_old (heap_new _ _ _ rfl))
  have hbw1 : Below w.heap.size w w1 := (((Below.refl _ _).alloc (Nat.le_refl _) _).alloc (by simp) _).trans (hb1.mono (by omega))
  have hq1 := hp1
  obtain ⟨lb, p2, p4, q4, p5, p6, p7, q7, p8, rfl, h0, hn, hc1, hc2, hc3, hc4, hc5, hc6, hc7, hc8⟩ := hp1
  have HQ := Lib.hid (And.intro hq1 (And.intro h1 hbw1))
  have HK0 := Lib.hid k0
  clear hc1 hc2 hc3 hc4 hc5 hc6 hc7 hc8 hq1 h1 hbw1 k0 h0 hn
  clear hb1
  go_wp2_with fail
  refine (all_again (w.heap.size + 1) 1 (by omega) _ w1 HQ.out.2.1 HQ.out.1).mono ?_; rintro e w2 ⟨⟨rfl, h2, hp2⟩, hb2⟩
  have k2 : w2.heap[w.heap.size]? = some (.cells #[.nilFunc, .nilFunc, .nilFunc, .bool false] 42 (0, 0)) := (hb2.block _ (by omega)).trans HK0.out
  obtain ⟨lb', p2, p4, q4, p5, p6, p7, q7, p8, he, h0, hn, hc1, hc2, hc3, hc4, hc5, hc6, hc7, hc8⟩ := hp2
  obtain rfl : lb = lb' := by injection he with he _ _; injection he with he; injection he
  have HB := Lib.hid (HQ.out.2.2.trans (hb2.mono (by omega)))
  have HK := Lib.hid k2
  have HC := Lib.hid (And.intro hc1 (And.intro hc2 (And.intro hc3 (And.intro hc4 (And.intro hc5 (And.intro hc6 (And.intro hc7 hc8)))))))
  have HN := Lib.hid hn
  have hlw : w.heap.size < lb := by have := hn.1; omega
  have d0 : w2.cell? ⟨lb, 16, none⟩ = some (.func (.func 52) #[] #[.pointer (some ⟨p5, 0, none⟩)]) := (Lib.cell_of_heap h0 16).trans rfl
  have d1 : w2.cell? ⟨lb, 17, none⟩ = some (.func (.func 39) #[] #[]) := (Lib.cell_of_heap h0 17).trans rfl
  have d2 : w2.cell? ⟨lb, 18, none⟩ = some (Value.nilFunc) := (Lib.cell_of_heap h0 18).trans rfl
  have d3 : w2.cell? ⟨lb, 19, none⟩ = some (.bool false) := (Lib.cell_of_heap h0 19).trans rfl
  clear he h0 hn hc1 hc2 hc3 hc4 hc5 hc6 hc7 hc8 hb2 h2 k2
  go_wp2_with (refine wpList_store_row rfl 42 _ _ rfl w.heap.size #[.func (.func 52) #[] #[.pointer (some ⟨p5, 0, none⟩)], .func (.func 39) #[] #[], Value.nilFunc, .bool false] rfl rfl 42 #[.nilFunc, .nilFunc, .nilFunc, .bool false] HK.out (by kernel_rfl) rfl (by kernel_rfl) ?_)
  have HR := setRow_heap _ _ _ #[.func (.func 52) #[] #[.pointer (some ⟨p5, 0, none⟩)], .func (.func 39) #[] #[], Value.nilFunc, .bool false] _ _ HK.out
  obtain ⟨wf, hwf⟩ : ∃ wf : World, wf = World.setRow (w2) w.heap.size #[.func (.func 52) #[] #[.pointer (some ⟨p5, 0, none⟩)], .func (.func 39) #[] #[], Value.nilFunc, .bool false] := ⟨_, rfl⟩
  rw [← hwf] at HR
  rw [← hwf]
  have r0 : wf.cell? ⟨w.heap.size, 0, none⟩ = some (.func (.func 52) #[] #[.pointer (some ⟨p5, 0, none⟩)]) := (Lib.cell_of_heap HR 0).trans rfl
  have r1 : wf.cell? ⟨w.heap.size, 1, none⟩ = some (.func (.func 39) #[] #[]) := (Lib.cell_of_heap HR 1).trans rfl
  have r2 : wf.cell? ⟨w.heap.size, 2, none⟩ = some (Value.nilFunc) := (Lib.cell_of_heap HR 2).trans rfl
  have r3 : wf.cell? ⟨w.heap.size, 3, none⟩ = some (.bool false) := (Lib.cell_of_heap HR 3).trans rfl
  refine bodyPost_ret (v := .tuple #[.agg #[.func (.func 52) #[] #[.pointer (some ⟨p5, 0, none⟩)], .func (.func 39) #[] #[], Value.nilFunc, .bool false], .int .i64 0]) (by simp [results, Tryz.results13, go_sem, r0, r1, r2, r3]; try rfl) rfl ?_
  rw [hwf]
  have kc : ∀ p v, w2.cell? ⟨p, 0, none⟩ = some v → w.heap.size < p → (w2.setRow w.heap.size #[.func (.func 52) #[] #[.pointer (some ⟨p5, 0, none⟩)], .func (.func 39) #[] #[], Value.nilFunc, .bool false]).cell? ⟨p, 0, none⟩ = some v := fun p v h hp => by rw [cell_setRow_other _ _ _ _ (by show p ≠ _; omega)]; exact h
  have HCO := HC.out
  obtain ⟨n0, n1, n2, n3, n4, n5, n6, n7, n8⟩ := HN.out
  exact ⟨⟨_, rfl, kc _ _ HCO.2.2.2.1 (by omega)⟩, below_setRow HB.out (Nat.le_refl _) _⟩
set_option maxRecDepth 100000 in
set_option maxHeartbeats 4000000 in
theorem of_6 (w : World) :
    Calls Tryz.prog 13 #[.int .u8 6] w fun e w' => (∃ p6 : Nat, e = .returned (.tuple #[.agg #[.func (.func 52) #[] #[.pointer (some ⟨p6, 0, none⟩)], .func (.func 27) #[] #[], Value.nilFunc, .bool false], .int .i64 0]) ∧ w'.cell? ⟨p6, 0, none⟩ = some (.func (.func 40) #[] #[])) ∧ Below w.heap.size w w' := by
  go_enter Tryz.func13, Tryz.ntmps13
  go_wp2_with fail
  refine (all_first (w.heap.size + 1) _ _ (heap_new _ _ _ (by simp))).mono ?_; rintro e w1 ⟨⟨l1, rfl, h1, hp1⟩, hb1⟩
  have hz1 : w.heap.size + 1 < w1.heap.size := heap_lt h1
  have k0 : w1.heap[w.heap.size]? = some (.cells #[.nilFunc, .nilFunc, .nilFunc, .bool false] 42 (0, 0)) := (hb1.block _ (by omega)).trans (heap_old (heap_new _ _ _ rfl))
  have hbw1 : Below w.heap.size w w1 := (((Below.refl _ _).alloc (Nat.le_refl _) _).alloc (by simp) _).trans (hb1.mono (by omega))
  have hq1 := hp1
  obtain ⟨lb, p2, p4, q4, p5, p6, p7, q7, p8, rfl, h0, hn, hc1, hc2, hc3, hc4, hc5, hc6, hc7, hc8⟩ := hp1
  have HQ := Lib.hid (And.intro hq1 (And.intro h1 hbw1))
  have HK0 := Lib.hid k0
  clear hc1 hc2 hc3 hc4 hc5 hc6 hc7 hc8 hq1 h1 hbw1 k0 h0 hn
  clear hb1
  go_wp2_with fail
  refine (all_again (w.heap.size + 1) 1 (by omega) _ w1 HQ.out.2.1 HQ.out.1).mono ?_; rintro e w2 ⟨⟨rfl, h2, hp2⟩, hb2⟩
  have k2 : w2.heap[w.heap.size]? = some (.cells #[.nilFunc, .nilFunc, .nilFunc, .bool false] 42 (0, 0)) := (hb2.block _ (by omega)).trans HK0.out
  obtain ⟨lb', p2, p4, q4, p5, p6, p7, q7, p8, he, h0, hn, hc1, hc2, hc3, hc4, hc5, hc6, hc7, hc8⟩ := hp2
  obtain rfl : lb = lb' := by injection he with he _ _; injection he with he; injection he
  have HB := Lib.hid (HQ.out.2.2.trans (hb2.mono (by omega)))
  have HK := Lib.hid k2
  have HC := Lib.hid (And.intro hc1 (And.intro hc2 (And.intro hc3 (And.intro hc4 (And.intro hc5 (And.intro hc6 (And.intro hc7 hc8)))))))
  have HN := Lib.hid hn
  have hlw : w.heap.size < lb := by have := hn.1; omega
  have d0 : w2.cell? ⟨lb, 20, none⟩ = some (.func (.func 52) #[] #[.pointer (some ⟨p6, 0, none⟩)]) := (Lib.cell_of_heap h0 20).trans rfl
  have d1 : w2.cell? ⟨lb, 21, none⟩ = some (.func (.func 27) #[] #[]) := (Lib.cell_of_heap h0 21).trans rfl
  have d2 : w2.cell? ⟨lb, 22, none⟩ = some (Value.nilFunc) := (Lib.cell_of_heap h0 22).trans rfl
  have d3 : w2.cell? ⟨lb, 23, none⟩ = some (.bool false) := (Lib.cell_of_heap h0 23).trans rfl
  clear he h0 hn hc1 hc2 hc3 hc4 hc5 hc6 hc7 hc8 hb2 h2 k2
  go_wp2_with (refine wpList_store_row rfl 42 _ _ rfl w.heap.size #[.func (.func 52) #[] #[.pointer (some ⟨p6, 0, none⟩)], .func (.func 27) #[] #[], Value.nilFunc, .bool false] rfl rfl 42 #[.nilFunc, .nilFunc, .nilFunc, .bool false] HK.out (by kernel_rfl) rfl (by kernel_rfl) ?_)
  have HR := setRow_heap _ _ _ #[.func (.func 52) #[] #[.pointer (some ⟨p6, 0, none⟩)], .func (.func 27) #[] #[], Value.nilFunc, .bool false] _ _ HK.out
  obtain ⟨wf, hwf⟩ : ∃ wf : World, wf = World.setRow (w2) w.heap.size #[.func (.func 52) #[] #[.pointer (some ⟨p6, 0, none⟩)], .func (.func 27) #[] #[], Value.nilFunc, .bool false] := ⟨_, rfl⟩
  rw [← hwf] at HR
  rw [← hwf]
  have r0 : wf.cell? ⟨w.heap.size, 0, none⟩ = some (.func (.func 52) #[] #[.pointer (some ⟨p6, 0, none⟩)]) := (Lib.cell_of_heap HR 0).trans rfl
  have r1 : wf.cell? ⟨w.heap.size, 1, none⟩ = some (.func (.func 27) #[] #[]) := (Lib.cell_of_heap HR 1).trans rfl
  have r2 : wf.cell? ⟨w.heap.size, 2, none⟩ = some (Value.nilFunc) := (Lib.cell_of_heap HR 2).trans rfl
  have r3 : wf.cell? ⟨w.heap.size, 3, none⟩ = some (.bool false) := (Lib.cell_of_heap HR 3).trans rfl
  refine bodyPost_ret (v := .tuple #[.agg #[.func (.func 52) #[] #[.pointer (some ⟨p6, 0, none⟩)], .func (.func 27) #[] #[], Value.nilFunc, .bool false], .int .i64 0]) (by simp [results, Tryz.results13, go_sem, r0, r1, r2, r3]; try rfl) rfl ?_
  rw [hwf]
  have kc : ∀ p v, w2.cell? ⟨p, 0, none⟩ = some v → w.heap.size < p → (w2.setRow w.heap.size #[.func (.func 52) #[] #[.pointer (some ⟨p6, 0, none⟩)], .func (.func 27) #[] #[], Value.nilFunc, .bool false]).cell? ⟨p, 0, none⟩ = some v := fun p v h hp => by rw [cell_setRow_other _ _ _ _ (by show p ≠ _; omega)]; exact h
  have HCO := HC.out
  obtain ⟨n0, n1, n2, n3, n4, n5, n6, n7, n8⟩ := HN.out
  exact ⟨⟨_, rfl, kc _ _ HCO.2.2.2.2.1 (by omega)⟩, below_setRow HB.out (Nat.le_refl _) _⟩
set_option maxRecDepth 100000 in
set_option maxHeartbeats 4000000 in
theorem of_7 (w : World) :
    Calls Tryz.prog 13 #[.int .u8 7] w fun e w' => (∃ q7 p7 : Nat, e = .returned (.tuple #[.agg #[.func (.func 53) #[] #[.pointer (some ⟨q7, 0, none⟩)], .func (.func 42) #[] #[], .func (.func 43) #[] #[], .bool false], .int .i64 0]) ∧ w'.cell? ⟨q7, 0, none⟩ = some (.func (.func 52) #[] #[.pointer (some ⟨p7, 0, none⟩)]) ∧ w'.cell? ⟨p7, 0, none⟩ = some (.func (.func 41) #[] #[])) ∧ Below w.heap.size w w' := by
  go_enter Tryz.func13, Tryz.ntmps13
  go_wp2_with fail
  refine (all_first (w.heap.size + 1) _ _ (heap_new _ _ _ (by simp))).mono ?_; rintro e w1 ⟨⟨l1, rfl, h1, hp1⟩, hb1⟩
  have hz1 : w.heap.size + 1 < w1.heap.size := heap_lt h1
  have k0 : w1.heap[w.heap.size]? = some (.cells #[.nilFunc, .nilFunc, .nilFunc, .bool false] 42 (0, 0)) := (hb1.block _ (by omega)).trans (heap_old (heap_new _ _ _ rfl))
  have hbw1 : Below w.heap.size w w1 := (((Below.refl _ _).alloc (Nat.le_refl _) _).alloc (by simp) _).trans (hb1.mono (by omega))
  have hq1 := hp1
  obtain ⟨lb, p2, p4, q4, p5, p6, p7, q7, p8, rfl, h0, hn, hc1, hc2, hc3, hc4, hc5, hc6, hc7, hc8⟩ := hp1
  have HQ := Lib.hid (And.intro hq1 (And.intro h1 hbw1))
  have HK0 := Lib.hid k0
  clear hc1 hc2 hc3 hc4 hc5 hc6 hc7 hc8 hq1 h1 hbw1 k0 h0 hn
  clear hb1
  go_wp2_with fail
  refine (all_again (w.heap.size + 1) 1 (by omega) _ w1 HQ.out.2.1 HQ.out.1).mono ?_; rintro e w2 ⟨⟨rfl, h2, hp2⟩, hb2⟩
  have k2 : w2.heap[w.heap.size]? = some (.cells #[.nilFunc, .nilFunc, .nilFunc, .bool false] 42 (0, 0)) := (hb2.block _ (by omega)).trans HK0.out
  obtain ⟨lb', p2, p4, q4, p5, p6, p7, q7, p8, he, h0, hn, hc1, hc2, hc3, hc4, hc5, hc6, hc7, hc8⟩ := hp2
  obtain rfl : lb = lb' := by injection he with he _ _; injection he with he; injection he
  have HB := Lib.hid (HQ.out.2.2.trans (hb2.mono (by omega)))
  have HK := Lib.hid k2
  have HC := Lib.hid (And.intro hc1 (And.intro hc2 (And.intro hc3 (And.intro hc4 (And.intro hc5 (And.intro hc6 (And.intro hc7 hc8)))))))
  have HN := Lib.hid hn
  have hlw : w.heap.size < lb := by have := hn.1; omega
  have d0 : w2.cell? ⟨lb, 24, none⟩ = some (.func (.func 53) #[] #[.pointer (some ⟨q7, 0, none⟩)]) := (Lib.cell_of_heap h0 24).trans rfl
  have d1 : w2.cell? ⟨lb, 25, none⟩ = some (.func (.func 42) #[] #[]) := (Lib.cell_of_heap h0 25).trans rfl
  have d2 : w2.cell? ⟨lb, 26, none⟩ = some (.func (.func 43) #[] #[]) := (Lib.cell_of_heap h0 26).trans rfl
  have d3 : w2.cell? ⟨lb, 27, none⟩ = some (.bool false) := (Lib.cell_of_heap h0 27).trans rfl
  clear he h0 hn hc1 hc2 hc3 hc4 hc5 hc6 hc7 hc8 hb2 h2 k2
  go_wp2_with (refine wpList_store_row rfl 42 _ _ rfl w.heap.size #[.func (.func 53) #[] #[.pointer (some ⟨q7, 0, none⟩)], .func (.func 42) #[] #[], .func (.func 43) #[] #[], .bool false] rfl rfl 42 #[.nilFunc, .nilFunc, .nilFunc, .bool false] HK.out (by kernel_rfl) rfl (by kernel_rfl) ?_)
  have HR := setRow_heap _ _ _ #[.func (.func 53) #[] #[.pointer (some ⟨q7, 0, none⟩)], .func (.func 42) #[] #[], .func (.func 43) #[] #[], .bool false] _ _ HK.out
  obtain ⟨wf, hwf⟩ : ∃ wf : World, wf = World.setRow (w2) w.heap.size #[.func (.func 53) #[] #[.pointer (some ⟨q7, 0, none⟩)], .func (.func 42) #[] #[], .func (.func 43) #[] #[], .bool false] := ⟨_, rfl⟩
  rw [← hwf] at HR
  rw [← hwf]
  have r0 : wf.cell? ⟨w.heap.size, 0, none⟩ = some (.func (.func 53) #[] #[.pointer (some ⟨q7, 0, none⟩)]) := (Lib.cell_of_heap HR 0).trans rfl
  have r1 : wf.cell? ⟨w.heap.size, 1, none⟩ = some (.func (.func 42) #[] #[]) := (Lib.cell_of_heap HR 1).trans rfl
  have r2 : wf.cell? ⟨w.heap.size, 2, none⟩ = some (.func (.func 43) #[] #[]) := (Lib.cell_of_heap HR 2).trans rfl
  have r3 : wf.cell? ⟨w.heap.size, 3, none⟩ = some (.bool false) := (Lib.cell_of_heap HR 3).trans rfl
  refine bodyPost_ret (v := .tuple #[.agg #[.func (.func 53) #[] #[.pointer (some ⟨q7, 0, none⟩)], .func (.func 42) #[] #[], .func (.func 43) #[] #[], .bool false], .int .i64 0]) (by simp [results, Tryz.results13, go_sem, r0, r1, r2, r3]; try rfl) rfl ?_
  rw [hwf]
  have kc : ∀ p v, w2.cell? ⟨p, 0, none⟩ = some v → w.heap.size < p → (w2.setRow w.heap.size #[.func (.func 53) #[] #[.pointer (some ⟨q7, 0, none⟩)], .func (.func 42) #[] #[], .func (.func 43) #[] #[], .bool false]).cell? ⟨p, 0, none⟩ = some v := fun p v h hp => by rw [cell_setRow_other _ _ _ _ (by show p ≠ _; omega)]; exact h
  have HCO := HC.out
  obtain ⟨n0, n1, n2, n3, n4, n5, n6, n7, n8⟩ := HN.out
  exact ⟨⟨_, _, rfl, kc _ _ HCO.2.2.2.2.2.2.1 (by omega), kc _ _ HCO.2.2.2.2.2.1 (by omega)⟩, below_setRow HB.out (Nat.le_refl _) _⟩
set_option maxRecDepth 100000 in
set_option maxHeartbeats 4000000 in
theorem of_8 (w : World) :
    Calls Tryz.prog 13 #[.int .u8 8] w fun e w' => (∃ p8 : Nat, e = .returned (.tuple #[.agg #[.func (.func 52) #[] #[.pointer (some ⟨p8, 0, none⟩)], Value.nilFunc, Value.nilFunc, .bool true], .int .i64 0]) ∧ w'.cell? ⟨p8, 0, none⟩ = some (.func (.func 44) #[] #[])) ∧ Below w.heap.size w w' := by
  go_enter Tryz.func13, Tryz.ntmps13
  go_wp2_with fail
  refine (all_first (w.heap.size + 1) _ _ (heap_new _ _ _ (by simp))).mono ?_; rintro e w1 ⟨⟨l1, rfl, h1, hp1⟩, hb1⟩
  have hz1 : w.heap.size + 1 < w1.heap.size := heap_lt h1
  have k0 : w1.heap[w.heap.size]? = some (.cells #[.nilFunc, .nilFunc, .nilFunc, .bool false] 42 (0, 0)) := (hb1.block _ (by omega)).trans (heap_old (heap_new _ _ _ rfl))
  have hbw1 : Below w.heap.size w w1 := (((Below.refl _ _).alloc (Nat.le_refl _) _).alloc (by simp) _).trans (hb1.mono (by omega))
  have hq1 := hp1
  obtain ⟨lb, p2, p4, q4, p5, p6, p7, q7, p8, rfl, h0, hn, hc1, hc2, hc3, hc4, hc5, hc6, hc7, hc8⟩ := hp1
  have HQ := Lib.hid (And.intro hq1 (And.intro h1 hbw1))
  have HK0 := Lib.hid k0
  clear hc1 hc2 hc3 hc4 hc5 hc6 hc7 hc8 hq1 h1 hbw1 k0 h0 hn
  clear hb1
  go_wp2_with fail
  refine (all_again (w.heap.size + 1) 1 (by omega) _ w1 HQ.out.2.1 HQ.out.1).mono ?_; rintro e w2 ⟨⟨rfl, h2, hp2⟩, hb2⟩
  have k2 : w2.heap[w.heap.size]? = some (.cells #[.nilFunc, .nilFunc, .nilFunc, .bool false] 42 (0, 0)) := (hb2.block _ (by omega)).trans HK0.out
  obtain ⟨lb', p2, p4, q4, p5, p6, p7, q7, p8, he, h0, hn, hc1, hc2, hc3, hc4, hc5, hc6, hc7, hc8⟩ := hp2
  obtain rfl : lb = lb' := by injection he with he _ _; injection he with he; injection he
  have HB := Lib.hid (HQ.out.2.2.trans (hb2.mono (by omega)))
  have HK := Lib.hid k2
  have HC := Lib.hid (And.intro hc1 (And.intro hc2 (And.intro hc3 (And.intro hc4 (And.intro hc5 (And.intro hc6 (And.intro hc7 hc8)))))))
  have HN := Lib.hid hn
  have hlw : w.heap.size < lb := by have := hn.1; omega
  have d0 : w2.cell? ⟨lb, 28, none⟩ = some (.func (.func 52) #[] #[.pointer (some ⟨p8, 0, none⟩)]) := (Lib.cell_of_heap h0 28).trans rfl
  have d1 : w2.cell? ⟨lb, 29, none⟩ = some (Value.nilFunc) := (Lib.cell_of_heap h0 29).trans rfl
  have d2 : w2.cell? ⟨lb, 30, none⟩ = some (Value.nilFunc) := (Lib.cell_of_heap h0 30).trans rfl
  have d3 : w2.cell? ⟨lb, 31, none⟩ = some (.bool true) := (Lib.cell_of_heap h0 31).trans rfl
  clear he h0 hn hc1 hc2 hc3 hc4 hc5 hc6 hc7 hc8 hb2 h2 k2
  go_wp2_with (refine wpList_store_row rfl 42 _ _ rfl w.heap.size #[.func (.func 52) #[] #[.pointer (some ⟨p8, 0, none⟩)], Value.nilFunc, Value.nilFunc, .bool true] rfl rfl 42 #[.nilFunc, .nilFunc, .nilFunc, .bool false] HK.out (by kernel_rfl) rfl (by kernel_rfl) ?_)
  have HR := setRow_heap _ _ _ #[.func (.func 52) #[] #[.pointer (some ⟨p8, 0, none⟩)], Value.nilFunc, Value.nilFunc, .bool true] _ _ HK.out
  obtain ⟨wf, hwf⟩ : ∃ wf : World, wf = World.setRow (w2) w.heap.size #[.func (.func 52) #[] #[.pointer (some ⟨p8, 0, none⟩)], Value.nilFunc, Value.nilFunc, .bool true] := ⟨_, rfl⟩
  rw [← hwf] at HR
  rw [← hwf]
  have r0 : wf.cell? ⟨w.heap.size, 0, none⟩ = some (.func (.func 52) #[] #[.pointer (some ⟨p8, 0, none⟩)]) := (Lib.cell_of_heap HR 0).trans rfl
  have r1 : wf.cell? ⟨w.heap.size, 1, none⟩ = some (Value.nilFunc) := (Lib.cell_of_heap HR 1).trans rfl
  have r2 : wf.cell? ⟨w.heap.size, 2, none⟩ = some (Value.nilFunc) := (Lib.cell_of_heap HR 2).trans rfl
  have r3 : wf.cell? ⟨w.heap.size, 3, none⟩ = some (.bool true) := (Lib.cell_of_heap HR 3).trans rfl
  refine bodyPost_ret (v := .tuple #[.agg #[.func (.func 52) #[] #[.pointer (some ⟨p8, 0, none⟩)], Value.nilFunc, Value.nilFunc, .bool true], .int .i64 0]) (by simp [results, Tryz.results13, go_sem, r0, r1, r2, r3]; try rfl) rfl ?_
  rw [hwf]
  have kc : ∀ p v, w2.cell? ⟨p, 0, none⟩ = some v → w.heap.size < p → (w2.setRow w.heap.size #[.func (.func 52) #[] #[.pointer (some ⟨p8, 0, none⟩)], Value.nilFunc, Value.nilFunc, .bool true]).cell? ⟨p, 0, none⟩ = some v := fun p v h hp => by rw [cell_setRow_other _ _ _ _ (by show p ≠ _; omega)]; exact h
  have HCO := HC.out
  obtain ⟨n0, n1, n2, n3, n4, n5, n6, n7, n8⟩ := HN.out
  exact ⟨⟨_, rfl, kc _ _ HCO.2.2.2.2.2.2.2 (by omega)⟩, below_setRow HB.out (Nat.le_refl _) _⟩
end Go.Proofs.YtpkkejcndmcbiaaGreatDoor
