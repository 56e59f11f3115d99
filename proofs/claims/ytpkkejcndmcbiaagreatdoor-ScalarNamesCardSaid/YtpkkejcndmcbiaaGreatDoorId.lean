/- scalar's all: the table, asked the first time, and again. -/
import Derived.Test.YtpkkejcndmcbiaaGreatDoorIc
import Derived.Shelf.Abstract
import Derived.Deep.DeepCutAuto
set_option linter.unusedSimpArgs false
set_option linter.unusedVariables false
namespace Go.Proofs.YtpkkejcndmcbiaaGreatDoor
open Go.RowKit Go.Shelf
set_option maxRecDepth 100000 in
theorem on_add (b o : Nat) (a : Int) (ha : 0 ≤ a ∧ a ≤ 100000) (w : World) (hc : w.cell? ⟨b, o, none⟩ = some (.int .i32 a)) (hz : w.frozen? ⟨b, o, none⟩ = false) :
    Calls Tryz.prog 24 #[.pointer (some ⟨b, o, none⟩), .int .i32 1] w fun e w' => e = .returned (.int .i32 (a + 1)) ∧ w' = w.setCell ⟨b, o, none⟩ (.int .i32 (a + 1)) := by
  have hw : IntKind.i32.wrap (a + 1) = a + 1 := by
    rw [IntKind.wrap_i32]; omega
  have hadd := run_call_add (P := Tryz.prog) Tryz.func46 (by kernel_rfl) (by kernel_rfl) (by kernel_rfl) .i32 (by kernel_rfl) (y := 1) (s := a + 1) hc hz (by simp [go_sem, hw])
  clear hw
  go_enter Tryz.func24, Tryz.ntmps24
  go_wp2
  go_ret
  exact ⟨rfl, rfl⟩
theorem ac1_ent : ∀ args w, (callFunc 26 args).run Tryz.prog w = .ok (.enter 26 args) w := enters_of Tryz.func26 (by kernel_rfl) rfl
set_option maxRecDepth 100000 in
set_option maxHeartbeats 4000000 in
theorem all_first (tb : Nat) (l0 : Value) (w : World) (hh : w.heap[tb]? = some (.cells #[.int .u32 0, .int .i32 0, .int .u32 0, .int .i32 0, l0] 70 (0, 0))) :
    Calls Tryz.prog 20 #[.pointer (some ⟨tb, 0, none⟩)] w fun e w' => (∃ l1, e = .returned l1 ∧ w'.heap[tb]? = some (.cells #[.int .u32 1, .int .i32 0, .int .u32 0, .int .i32 1, l1] 70 (0, 0)) ∧ TabP tb l1 w') ∧ Below tb w w' := by
  have hlt : tb < w.heap.size := heap_lt hh
  obtain ⟨w1, hw1⟩ : ∃ w1, w.alloc (.cells #[.pointer (some ⟨tb, 0, none⟩)] 53 (0, 0)) = w1 := ⟨_, rfl⟩
  have h1 : w1.heap[tb]? = some (.cells #[.int .u32 0, .int .i32 0, .int .u32 0, .int .i32 0, l0] 70 (0, 0)) := by rw [← hw1]; exact heap_old hh
  have hv : w1.heap[w.heap.size]? = some (.cells #[.pointer (some ⟨tb, 0, none⟩)] 53 (0, 0)) := by rw [← hw1]; exact heap_new _ _ _ rfl
  have hb1 : Below tb w w1 := by rw [← hw1]; exact (Below.refl tb w).alloc (Nat.le_of_lt hlt) _
  have c3 : w1.cell? ⟨tb, 3, none⟩ = some (.int .i32 0) := (Lib.cell_of_heap h1 3).trans rfl
  have z3 : w1.frozen? ⟨tb, 3, none⟩ = false := Lib.frozen_of_heap h1 3
  have h2 : (w1.setCell ⟨tb, 3, none⟩ (.int .i32 (0 + 1))).heap[tb]? = some (.cells #[.int .u32 0, .int .i32 0, .int .u32 0, .int .i32 1, l0] 70 (0, 0)) := on_pset h1 _ rfl
  have hv2 : (w1.setCell ⟨tb, 3, none⟩ (.int .i32 (0 + 1))).heap[w.heap.size]? = some (.cells #[.pointer (some ⟨tb, 0, none⟩)] 53 (0, 0)) := by
    rw [Below.heap_setCell _ _ _ _ (show w.heap.size ≠ tb by omega)]; exact hv
  have hb2 : Below tb w (w1.setCell ⟨tb, 3, none⟩ (.int .i32 (0 + 1))) := hb1.setCell (p := ⟨tb, 3, none⟩) (Nat.le_refl tb) _
  have ct1 : w1.cell? ⟨w.heap.size, 0, none⟩ = some (.pointer (some ⟨tb, 0, none⟩)) := (Lib.cell_of_heap hv 0).trans rfl
  have ct2 : (w1.setCell ⟨tb, 3, none⟩ (.int .i32 (0 + 1))).cell? ⟨w.heap.size, 0, none⟩ = some (.pointer (some ⟨tb, 0, none⟩)) := (Lib.cell_of_heap hv2 0).trans rfl
  obtain ⟨w2, hw2⟩ : ∃ w2, w1.setCell ⟨tb, 3, none⟩ (.int .i32 (0 + 1)) = w2 := ⟨_, rfl⟩
  rw [hw2] at h2 hb2 hv2 ct2
  have hs2 : w.heap.size < w2.heap.size := heap_lt hv2
  have HD := Lib.hid (on_do tb 26 70 0 1 l0 #[.pointer (some ⟨w.heap.size, 0, none⟩)] (TabP tb) w2 h2 ac1_ent (Lib.hid fun l W W' h hk => h.kept hk) (Lib.hid fun W hW hb hk => tab_made w.heap.size tb _ _ _ _ l0 70 W (by omega) ((Lib.cell_of_heap ((hk w.heap.size (by omega)).trans hv2) 0).trans rfl) hW))
  go_enter Tryz.func20, Tryz.ntmps20
  go_upto_region 1 with fail
  try rw [hw1]
  obtain ⟨tv, htv⟩ : ∃ tv, w.heap.size = tv := ⟨_, rfl⟩
  rw [htv] at ct1 ct2 HD
  try rw [htv]
  go_wp2_with fail
  refine (on_add tb 3 0 (by omega) w1 c3 z3).mono ?_; rintro e w9 ⟨rfl, rfl⟩
  rw [hw2]
  go_wp2_with fail
  refine HD.out.mono ?_; rintro e w5 ⟨rfl, ⟨l1, h5, hp5⟩, hb5, hk5⟩
  have c5 : w5.cell? ⟨tv, 0, none⟩ = some (.pointer (some ⟨tb, 0, none⟩)) := (Lib.cell_of_heap ((hk5 tv (by omega) (by omega)).trans (by rw [← htv]; exact hv2)) 0).trans rfl
  have l5 : w5.cell? ⟨tb, 4, none⟩ = some l1 := (Lib.cell_of_heap h5 4).trans rfl
  have HE := Lib.hid (And.intro h5 (And.intro hp5 (hb2.trans hb5)))
  clear h5 hp5 hb5 hk5 hb2 HD
  go_wp2_with fail
  go_ret
  exact ⟨⟨l1, rfl, HE.out.1, HE.out.2.1⟩, HE.out.2.2⟩
set_option maxRecDepth 100000 in
set_option maxHeartbeats 4000000 in
theorem all_again (tb : Nat) (a : Int) (ha : 0 ≤ a ∧ a ≤ 100000) (l1 : Value) (w : World) (hh : w.heap[tb]? = some (.cells #[.int .u32 1, .int .i32 0, .int .u32 0, .int .i32 a, l1] 70 (0, 0))) (hp : TabP tb l1 w) :
    Calls Tryz.prog 20 #[.pointer (some ⟨tb, 0, none⟩)] w fun e w' => (e = .returned l1 ∧ w'.heap[tb]? = some (.cells #[.int .u32 1, .int .i32 0, .int .u32 0, .int .i32 (a + 1), l1] 70 (0, 0)) ∧ TabP tb l1 w') ∧ Below tb w w' := by
  have hlt : tb < w.heap.size := heap_lt hh
  obtain ⟨w1, hw1⟩ : ∃ w1, w.alloc (.cells #[.pointer (some ⟨tb, 0, none⟩)] 53 (0, 0)) = w1 := ⟨_, rfl⟩
  have h1 : w1.heap[tb]? = some (.cells #[.int .u32 1, .int .i32 0, .int .u32 0, .int .i32 a, l1] 70 (0, 0)) := by rw [← hw1]; exact heap_old hh
  have hv : w1.heap[w.heap.size]? = some (.cells #[.pointer (some ⟨tb, 0, none⟩)] 53 (0, 0)) := by rw [← hw1]; exact heap_new _ _ _ rfl
  have hb1 : Below tb w w1 := by rw [← hw1]; exact (Below.refl tb w).alloc (Nat.le_of_lt hlt) _
  have hp1 : TabP tb l1 w1 := by
    obtain ⟨lb, p2, p4, q4, p5, p6, p7, q7, p8, e, h0, hn, c1, c2, c3, c4, c5, c6, c7, c8⟩ := hp
    have hbw : Below w.heap.size w w1 := by rw [← hw1]; exact (Below.refl _ w).alloc (Nat.le_refl _) _
    have ck : ∀ p v, w.cell? ⟨p, 0, none⟩ = some v → w1.cell? ⟨p, 0, none⟩ = some v := fun p v h => (hbw.cell (p := ⟨p, 0, none⟩) (lt_of_cell h)).trans h
    exact ⟨lb, p2, p4, q4, p5, p6, p7, q7, p8, e, (hbw.block _ (heap_lt h0)).trans h0, hn, ck _ _ c1, ck _ _ c2, ck _ _ c3, ck _ _ c4, ck _ _ c5, ck _ _ c6, ck _ _ c7, ck _ _ c8⟩
  have c3 : w1.cell? ⟨tb, 3, none⟩ = some (.int .i32 a) := (Lib.cell_of_heap h1 3).trans rfl
  have z3 : w1.frozen? ⟨tb, 3, none⟩ = false := Lib.frozen_of_heap h1 3
  have h2 : (w1.setCell ⟨tb, 3, none⟩ (.int .i32 (a + 1))).heap[tb]? = some (.cells #[.int .u32 1, .int .i32 0, .int .u32 0, .int .i32 (a + 1), l1] 70 (0, 0)) := on_pset h1 _ rfl
  have hv2 : (w1.setCell ⟨tb, 3, none⟩ (.int .i32 (a + 1))).heap[w.heap.size]? = some (.cells #[.pointer (some ⟨tb, 0, none⟩)] 53 (0, 0)) := by
    rw [Below.heap_setCell _ _ _ _ (show w.heap.size ≠ tb by omega)]; exact hv
  have hb2 : Below tb w (w1.setCell ⟨tb, 3, none⟩ (.int .i32 (a + 1))) := hb1.setCell (p := ⟨tb, 3, none⟩) (Nat.le_refl tb) _
  have hp2 : TabP tb l1 (w1.setCell ⟨tb, 3, none⟩ (.int .i32 (a + 1))) := hp1.kept fun b hb => Below.heap_setCell _ _ _ _ hb
  have ct1 : w1.cell? ⟨w.heap.size, 0, none⟩ = some (.pointer (some ⟨tb, 0, none⟩)) := (Lib.cell_of_heap hv 0).trans rfl
  have ct2 : (w1.setCell ⟨tb, 3, none⟩ (.int .i32 (a + 1))).cell? ⟨w.heap.size, 0, none⟩ = some (.pointer (some ⟨tb, 0, none⟩)) := (Lib.cell_of_heap hv2 0).trans rfl
  have d0 : (w1.setCell ⟨tb, 3, none⟩ (.int .i32 (a + 1))).cell? ⟨tb, 0, none⟩ = some (.int .u32 1) := (Lib.cell_of_heap h2 0).trans rfl
  have l4 : (w1.setCell ⟨tb, 3, none⟩ (.int .i32 (a + 1))).cell? ⟨tb, 4, none⟩ = some l1 := (Lib.cell_of_heap h2 4).trans rfl
  obtain ⟨w2, hw2⟩ : ∃ w2, w1.setCell ⟨tb, 3, none⟩ (.int .i32 (a + 1)) = w2 := ⟨_, rfl⟩
  rw [hw2] at h2 hb2 ct2 d0 l4 hp2
  have HE := Lib.hid (And.intro h2 (And.intro hp2 hb2))
  clear h1 hv hv2 hb1 hp hp1 h2 hb2 hp2 hh
  go_enter Tryz.func20, Tryz.ntmps20
  go_upto_region 1 with fail
  try rw [hw1]
  obtain ⟨tv, htv⟩ : ∃ tv, w.heap.size = tv := ⟨_, rfl⟩
  rw [htv] at ct1 ct2
  try rw [htv]
  go_wp2_with fail
  refine (on_add tb 3 a ha w1 c3 z3).mono ?_; rintro e w9 ⟨rfl, rfl⟩
  rw [hw2]
  go_wp2_with fail
  refine (on_did tb _ w2 d0).mono ?_; rintro e w5 ⟨rfl, rfl⟩
  go_wp2_with fail
  go_ret
  exact ⟨⟨rfl, HE.out.1, HE.out.2.1⟩, HE.out.2.2⟩
end Go.Proofs.YtpkkejcndmcbiaaGreatDoor
