/- What compares two documents' parts: chains of tests and calls over two boxed values (the closures of doc.args, dirs, Same), over contracts. -/
import Derived.Test.YtbejhdhhkpllfaaGreatDoorXa
set_option linter.unusedSimpArgs false
set_option linter.unusedVariables false
namespace Go.Proofs.YtbejhdhhkpllfaaGreatDoor
open Go.RowKit
set_option maxRecDepth 100000 in
set_option maxHeartbeats 4000000 in
theorem da1_c (x0 y0 : ByteArray) (xa1 ya1 : Option Addr) (xn1 xc1 yn1 yc1 : Nat) (t0 t1 : Bool) (w : World)
    (h0 : (x0.toList == y0.toList) = t0)
    (H1 : Hid (∀ W, Below w.heap.size w W → Calls Tryz.prog 22 #[.slice xa1 xn1 xc1, .slice ya1 yn1 yc1] W fun e w' => e = .returned (.bool t1) ∧ Below W.heap.size W w')) :
    Calls Tryz.prog 48 #[.agg #[.string x0, .slice xa1 xn1 xc1], .agg #[.string y0, .slice ya1 yn1 yc1]] w fun e w' => e = .returned (.bool (t0 && t1)) ∧ Below w.heap.size w w' := by
  go_enter Tryz.func48, Tryz.ntmps48
  go_upto_region 1 with fail
  obtain ⟨w2, hw2⟩ : ∃ w2, (w.alloc (.cells #[.string x0, .slice xa1 xn1 xc1] 86 (0, 0))).alloc (.cells #[.string y0, .slice ya1 yn1 yc1] 86 (0, 0)) = w2 := ⟨_, rfl⟩
  have HB2 : Hid (Below w.heap.size w w2) := Lib.hid (by rw [← hw2]; exact ((Below.refl _ _).alloc (Nat.le_refl _) _).alloc (by simp) _)
  have k1 : w2.heap[w.heap.size]? = some (.cells #[.string x0, .slice xa1 xn1 xc1] 86 (0, 0)) := by rw [← hw2]; exact heap_old (heap_new _ _ _ rfl)
  have k2 : w2.heap[w.heap.size + 1]? = some (.cells #[.string y0, .slice ya1 yn1 yc1] 86 (0, 0)) := by rw [← hw2]; exact heap_new _ _ _ (by simp)
  have MK : Hid (∀ W, Below w2.heap.size w2 W → W.cell? ⟨w.heap.size, 0, none⟩ = some (.string x0) ∧ W.cell? ⟨w.heap.size, 1, none⟩ = some (.slice xa1 xn1 xc1) ∧ W.cell? ⟨w.heap.size + 1, 0, none⟩ = some (.string y0) ∧ W.cell? ⟨w.heap.size + 1, 1, none⟩ = some (.slice ya1 yn1 yc1)) := Lib.hid fun W hW => ⟨(Lib.cell_of_heap ((hW.block _ (heap_lt k1)).trans k1) 0).trans rfl, (Lib.cell_of_heap ((hW.block _ (heap_lt k1)).trans k1) 1).trans rfl, (Lib.cell_of_heap ((hW.block _ (heap_lt k2)).trans k2) 0).trans rfl, (Lib.cell_of_heap ((hW.block _ (heap_lt k2)).trans k2) 1).trans rfl⟩
  obtain ⟨d0, d1, d2, d3⟩ := MK.out w2 (Below.refl _ _)
  have HBV : Hid (Below w2.heap.size w2 w2) := Lib.hid (Below.refl _ _)
  try rw [hw2]
  clear hw2 k1 k2
  cases t0 with
  | false =>
    go_wp2_with fail
    go_ret
    exact ⟨ret_b rfl, HB2.out.trans (HBV.out.mono HB2.out.size)⟩
  | true =>
    cases t1 with
    | false =>
      go_wp2_with fail
      refine (H1.out _ (HB2.out.trans (HBV.out.mono HB2.out.size))).mono ?_; rintro e w5 ⟨rfl, hb⟩
      have HBV2 : Hid (Below w2.heap.size w2 w5) := Lib.hid (HBV.out.trans (hb.mono HBV.out.size))
      clear HBV hb
      have HBV := HBV2
      clear HBV2
      go_wp2_with fail
      go_ret
      exact ⟨ret_b rfl, HB2.out.trans (HBV.out.mono HB2.out.size)⟩
    | true =>
      go_wp2_with fail
      refine (H1.out _ (HB2.out.trans (HBV.out.mono HB2.out.size))).mono ?_; rintro e w5 ⟨rfl, hb⟩
      have HBV2 : Hid (Below w2.heap.size w2 w5) := Lib.hid (HBV.out.trans (hb.mono HBV.out.size))
      clear HBV hb
      have HBV := HBV2
      clear HBV2
      go_wp2_with fail
      go_ret
      exact ⟨ret_b rfl, HB2.out.trans (HBV.out.mono HB2.out.size)⟩
set_option maxRecDepth 100000 in
set_option maxHeartbeats 4000000 in
theorem dd1_c (x0 y0 : ByteArray) (xa1 ya1 : Option Addr) (xn1 xc1 yn1 yc1 : Nat) (t0 t1 : Bool) (w : World)
    (h0 : (x0.toList == y0.toList) = t0)
    (H1 : Hid (∀ W, Below w.heap.size w W → Calls Tryz.prog 18 #[.slice xa1 xn1 xc1, .slice ya1 yn1 yc1] W fun e w' => e = .returned (.bool t1) ∧ Below W.heap.size W w')) :
    Calls Tryz.prog 50 #[.agg #[.string x0, .slice xa1 xn1 xc1], .agg #[.string y0, .slice ya1 yn1 yc1]] w fun e w' => e = .returned (.bool (t0 && t1)) ∧ Below w.heap.size w w' := by
  go_enter Tryz.func50, Tryz.ntmps50
  go_upto_region 1 with fail
  obtain ⟨w2, hw2⟩ : ∃ w2, (w.alloc (.cells #[.string x0, .slice xa1 xn1 xc1] 90 (0, 0))).alloc (.cells #[.string y0, .slice ya1 yn1 yc1] 90 (0, 0)) = w2 := ⟨_, rfl⟩
  have HB2 : Hid (Below w.heap.size w w2) := Lib.hid (by rw [← hw2]; exact ((Below.refl _ _).alloc (Nat.le_refl _) _).alloc (by simp) _)
  have k1 : w2.heap[w.heap.size]? = some (.cells #[.string x0, .slice xa1 xn1 xc1] 90 (0, 0)) := by rw [← hw2]; exact heap_old (heap_new _ _ _ rfl)
  have k2 : w2.heap[w.heap.size + 1]? = some (.cells #[.string y0, .slice ya1 yn1 yc1] 90 (0, 0)) := by rw [← hw2]; exact heap_new _ _ _ (by simp)
  have MK : Hid (∀ W, Below w2.heap.size w2 W → W.cell? ⟨w.heap.size, 0, none⟩ = some (.string x0) ∧ W.cell? ⟨w.heap.size, 1, none⟩ = some (.slice xa1 xn1 xc1) ∧ W.cell? ⟨w.heap.size + 1, 0, none⟩ = some (.string y0) ∧ W.cell? ⟨w.heap.size + 1, 1, none⟩ = some (.slice ya1 yn1 yc1)) := Lib.hid fun W hW => ⟨(Lib.cell_of_heap ((hW.block _ (heap_lt k1)).trans k1) 0).trans rfl, (Lib.cell_of_heap ((hW.block _ (heap_lt k1)).trans k1) 1).trans rfl, (Lib.cell_of_heap ((hW.block _ (heap_lt k2)).trans k2) 0).trans rfl, (Lib.cell_of_heap ((hW.block _ (heap_lt k2)).trans k2) 1).trans rfl⟩
  obtain ⟨d0, d1, d2, d3⟩ := MK.out w2 (Below.refl _ _)
  have HBV : Hid (Below w2.heap.size w2 w2) := Lib.hid (Below.refl _ _)
  try rw [hw2]
  clear hw2 k1 k2
  cases t0 with
  | false =>
    go_wp2_with fail
    go_ret
    exact ⟨ret_b rfl, HB2.out.trans (HBV.out.mono HB2.out.size)⟩
  | true =>
    cases t1 with
    | false =>
      go_wp2_with fail
      refine (H1.out _ (HB2.out.trans (HBV.out.mono HB2.out.size))).mono ?_; rintro e w5 ⟨rfl, hb⟩
      have HBV2 : Hid (Below w2.heap.size w2 w5) := Lib.hid (HBV.out.trans (hb.mono HBV.out.size))
      clear HBV hb
      have HBV := HBV2
      clear HBV2
      go_wp2_with fail
      go_ret
      exact ⟨ret_b rfl, HB2.out.trans (HBV.out.mono HB2.out.size)⟩
    | true =>
      go_wp2_with fail
      refine (H1.out _ (HB2.out.trans (HBV.out.mono HB2.out.size))).mono ?_; rintro e w5 ⟨rfl, hb⟩
      have HBV2 : Hid (Below w2.heap.size w2 w5) := Lib.hid (HBV.out.trans (hb.mono HBV.out.size))
      clear HBV hb
      have HBV := HBV2
      clear HBV2
      go_wp2_with fail
      go_ret
      exact ⟨ret_b rfl, HB2.out.trans (HBV.out.mono HB2.out.size)⟩
set_option maxRecDepth 100000 in
set_option maxHeartbeats 4000000 in
theorem dse_c (x0 y0 : Int) (x1 y1 : ByteArray) (x2 y2 : ByteArray) (xa3 ya3 : Option Addr) (xn3 xc3 yn3 yc3 : Nat) (xa4 ya4 : Option Addr) (xn4 xc4 yn4 yc4 : Nat) (x5 y5 : Int) (t0 t1 t2 t3 t4 t5 : Bool) (w : World)
    (h0 : (x0 == y0) = t0)
    (h1 : (x1.toList == y1.toList) = t1)
    (h2 : (x2.toList == y2.toList) = t2)
    (h3 : (x5 == y5) = t3)
    (H4 : Hid (∀ W, Below w.heap.size w W → Calls Tryz.prog 18 #[.slice xa3 xn3 xc3, .slice ya3 yn3 yc3] W fun e w' => e = .returned (.bool t4) ∧ Below W.heap.size W w'))
    (H5 : Hid (∀ W, Below w.heap.size w W → Calls Tryz.prog 19 #[.slice xa4 xn4 xc4, .slice ya4 yn4 yc4] W fun e w' => e = .returned (.bool t5) ∧ Below W.heap.size W w')) :
    Calls Tryz.prog 17 #[.agg #[.int .u8 x0, .string x1, .string x2, .slice xa3 xn3 xc3, .slice xa4 xn4 xc4, .int .i64 x5], .agg #[.int .u8 y0, .string y1, .string y2, .slice ya3 yn3 yc3, .slice ya4 yn4 yc4, .int .i64 y5]] w fun e w' => e = .returned (.bool (t0 && t1 && t2 && t3 && t4 && t5)) ∧ Below w.heap.size w w' := by
  go_enter Tryz.func17, Tryz.ntmps17
  go_upto_region 1 with fail
  obtain ⟨w2, hw2⟩ : ∃ w2, (w.alloc (.cells #[.int .u8 x0, .string x1, .string x2, .slice xa3 xn3 xc3, .slice xa4 xn4 xc4, .int .i64 x5] 52 (0, 0))).alloc (.cells #[.int .u8 y0, .string y1, .string y2, .slice ya3 yn3 yc3, .slice ya4 yn4 yc4, .int .i64 y5] 52 (0, 0)) = w2 := ⟨_, rfl⟩
  have HB2 : Hid (Below w.heap.size w w2) := Lib.hid (by rw [← hw2]; exact ((Below.refl _ _).alloc (Nat.le_refl _) _).alloc (by simp) _)
  have k1 : w2.heap[w.heap.size]? = some (.cells #[.int .u8 x0, .string x1, .string x2, .slice xa3 xn3 xc3, .slice xa4 xn4 xc4, .int .i64 x5] 52 (0, 0)) := by rw [← hw2]; exact heap_old (heap_new _ _ _ rfl)
  have k2 : w2.heap[w.heap.size + 1]? = some (.cells #[.int .u8 y0, .string y1, .string y2, .slice ya3 yn3 yc3, .slice ya4 yn4 yc4, .int .i64 y5] 52 (0, 0)) := by rw [← hw2]; exact heap_new _ _ _ (by simp)
  have MK : Hid (∀ W, Below w2.heap.size w2 W → W.cell? ⟨w.heap.size, 0, none⟩ = some (.int .u8 x0) ∧ W.cell? ⟨w.heap.size, 1, none⟩ = some (.string x1) ∧ W.cell? ⟨w.heap.size, 2, none⟩ = some (.string x2) ∧ W.cell? ⟨w.heap.size, 3, none⟩ = some (.slice xa3 xn3 xc3) ∧ W.cell? ⟨w.heap.size, 4, none⟩ = some (.slice xa4 xn4 xc4) ∧ W.cell? ⟨w.heap.size, 5, none⟩ = some (.int .i64 x5) ∧ W.cell? ⟨w.heap.size + 1, 0, none⟩ = some (.int .u8 y0) ∧ W.cell? ⟨w.heap.size + 1, 1, none⟩ = some (.string y1) ∧ W.cell? ⟨w.heap.size + 1, 2, none⟩ = some (.string y2) ∧ W.cell? ⟨w.heap.size + 1, 3, none⟩ = some (.slice ya3 yn3 yc3) ∧ W.cell? ⟨w.heap.size + 1, 4, none⟩ = some (.slice ya4 yn4 yc4) ∧ W.cell? ⟨w.heap.size + 1, 5, none⟩ = some (.int .i64 y5)) := Lib.hid fun W hW => ⟨(Lib.cell_of_heap ((hW.block _ (heap_lt k1)).trans k1) 0).trans rfl, (Lib.cell_of_heap ((hW.block _ (heap_lt k1)).trans k1) 1).trans rfl, (Lib.cell_of_heap ((hW.block _ (heap_lt k1)).trans k1) 2).trans rfl, (Lib.cell_of_heap ((hW.block _ (heap_lt k1)).trans k1) 3).trans rfl, (Lib.cell_of_heap ((hW.block _ (heap_lt k1)).trans k1) 4).trans rfl, (Lib.cell_of_heap ((hW.block _ (heap_lt k1)).trans k1) 5).trans rfl, (Lib.cell_of_heap ((hW.block _ (heap_lt k2)).trans k2) 0).trans rfl, (Lib.cell_of_heap ((hW.block _ (heap_lt k2)).trans k2) 1).trans rfl, (Lib.cell_of_heap ((hW.block _ (heap_lt k2)).trans k2) 2).trans rfl, (Lib.cell_of_heap ((hW.block _ (heap_lt k2)).trans k2) 3).trans rfl, (Lib.cell_of_heap ((hW.block _ (heap_lt k2)).trans k2) 4).trans rfl, (Lib.cell_of_heap ((hW.block _ (heap_lt k2)).trans k2) 5).trans rfl⟩
  obtain ⟨d0, d1, d2, d3, d4, d5, d6, d7, d8, d9, d10, d11⟩ := MK.out w2 (Below.refl _ _)
  have HBV : Hid (Below w2.heap.size w2 w2) := Lib.hid (Below.refl _ _)
  try rw [hw2]
  clear hw2 k1 k2
  cases t0 with
  | false =>
    go_wp2_with fail
    go_ret
    exact ⟨ret_b rfl, HB2.out.trans (HBV.out.mono HB2.out.size)⟩
  | true =>
    cases t1 with
    | false =>
      go_wp2_with fail
      go_ret
      exact ⟨ret_b rfl, HB2.out.trans (HBV.out.mono HB2.out.size)⟩
    | true =>
      cases t2 with
      | false =>
        go_wp2_with fail
        go_ret
        exact ⟨ret_b rfl, HB2.out.trans (HBV.out.mono HB2.out.size)⟩
      | true =>
        cases t3 with
        | false =>
          go_wp2_with fail
          go_ret
          exact ⟨ret_b rfl, HB2.out.trans (HBV.out.mono HB2.out.size)⟩
        | true =>
          cases t4 with
          | false =>
            go_wp2_with fail
            refine (H4.out _ (HB2.out.trans (HBV.out.mono HB2.out.size))).mono ?_; rintro e w5 ⟨rfl, hb⟩
            have HBV2 : Hid (Below w2.heap.size w2 w5) := Lib.hid (HBV.out.trans (hb.mono HBV.out.size))
            clear HBV hb
            have HBV := HBV2
            clear HBV2
            go_wp2_with fail
            go_ret
            exact ⟨ret_b rfl, HB2.out.trans (HBV.out.mono HB2.out.size)⟩
          | true =>
            go_wp2_with fail
            refine (H4.out _ (HB2.out.trans (HBV.out.mono HB2.out.size))).mono ?_; rintro e w5 ⟨rfl, hb⟩
            have HBV2 : Hid (Below w2.heap.size w2 w5) := Lib.hid (HBV.out.trans (hb.mono HBV.out.size))
            obtain ⟨d0, d1, d2, d3, d4, d5, d6, d7, d8, d9, d10, d11⟩ := MK.out w5 HBV2.out
            clear HBV hb
            have HBV := HBV2
            clear HBV2
            cases t5 with
            | false =>
              go_wp2_with fail
              refine (H5.out _ (HB2.out.trans (HBV.out.mono HB2.out.size))).mono ?_; rintro e w5 ⟨rfl, hb⟩
              have HBV2 : Hid (Below w2.heap.size w2 w5) := Lib.hid (HBV.out.trans (hb.mono HBV.out.size))
              clear HBV hb
              have HBV := HBV2
              clear HBV2
              go_wp2_with fail
              go_ret
              exact ⟨ret_b rfl, HB2.out.trans (HBV.out.mono HB2.out.size)⟩
            | true =>
              go_wp2_with fail
              refine (H5.out _ (HB2.out.trans (HBV.out.mono HB2.out.size))).mono ?_; rintro e w5 ⟨rfl, hb⟩
              have HBV2 : Hid (Below w2.heap.size w2 w5) := Lib.hid (HBV.out.trans (hb.mono HBV.out.size))
              clear HBV hb
              have HBV := HBV2
              clear HBV2
              go_wp2_with fail
              go_ret
              exact ⟨ret_b rfl, HB2.out.trans (HBV.out.mono HB2.out.size)⟩
set_option maxRecDepth 100000 in
set_option maxHeartbeats 4000000 in
theorem dva_c (x0 y0 : ByteArray) (x1 y1 : ByteArray) (xa2 ya2 : Option Addr) (xn2 xc2 yn2 yc2 : Nat) (x3 y3 : Bool) (xa4 ya4 : Option Addr) (xn4 xc4 yn4 yc4 : Nat) (xa5 ya5 : Option Addr) (xn5 xc5 yn5 yc5 : Nat) (t0 t1 t2 t3 t4 t5 : Bool) (w : World)
    (h0 : (x0.toList == y0.toList) = t0)
    (h1 : (x1.toList == y1.toList) = t1)
    (H2 : Hid (∀ W, Below w.heap.size w W → Calls Tryz.prog 21 #[.slice xa2 xn2 xc2, .slice ya2 yn2 yc2] W fun e w' => e = .returned (.bool t2) ∧ Below W.heap.size W w'))
    (h3 : (x3 == y3) = t3)
    (H4 : Hid (∀ W, Below w.heap.size w W → Calls Tryz.prog 22 #[.slice xa4 xn4 xc4, .slice ya4 yn4 yc4] W fun e w' => e = .returned (.bool t4) ∧ Below W.heap.size W w'))
    (H5 : Hid (∀ W, Below w.heap.size w W → Calls Tryz.prog 19 #[.slice xa5 xn5 xc5, .slice ya5 yn5 yc5] W fun e w' => e = .returned (.bool t5) ∧ Below W.heap.size W w')) :
    Calls Tryz.prog 20 #[.agg #[.string x0, .string x1, .slice xa2 xn2 xc2, .bool x3, .slice xa4 xn4 xc4, .slice xa5 xn5 xc5], .agg #[.string y0, .string y1, .slice ya2 yn2 yc2, .bool y3, .slice ya4 yn4 yc4, .slice ya5 yn5 yc5]] w fun e w' => e = .returned (.bool (t0 && t1 && t2 && t3 && t4 && t5)) ∧ Below w.heap.size w w' := by
  go_enter Tryz.func20, Tryz.ntmps20
  go_upto_region 1 with fail
  obtain ⟨w2, hw2⟩ : ∃ w2, (w.alloc (.cells #[.string x0, .string x1, .slice xa2 xn2 xc2, .bool x3, .slice xa4 xn4 xc4, .slice xa5 xn5 xc5] 48 (0, 0))).alloc (.cells #[.string y0, .string y1, .slice ya2 yn2 yc2, .bool y3, .slice ya4 yn4 yc4, .slice ya5 yn5 yc5] 48 (0, 0)) = w2 := ⟨_, rfl⟩
  have HB2 : Hid (Below w.heap.size w w2) := Lib.hid (by rw [← hw2]; exact ((Below.refl _ _).alloc (Nat.le_refl _) _).alloc (by simp) _)
  have k1 : w2.heap[w.heap.size]? = some (.cells #[.string x0, .string x1, .slice xa2 xn2 xc2, .bool x3, .slice xa4 xn4 xc4, .slice xa5 xn5 xc5] 48 (0, 0)) := by rw [← hw2]; exact heap_old (heap_new _ _ _ rfl)
  have k2 : w2.heap[w.heap.size + 1]? = some (.cells #[.string y0, .string y1, .slice ya2 yn2 yc2, .bool y3, .slice ya4 yn4 yc4, .slice ya5 yn5 yc5] 48 (0, 0)) := by rw [← hw2]; exact heap_new _ _ _ (by simp)
  have MK : Hid (∀ W, Below w2.heap.size w2 W → W.cell? ⟨w.heap.size, 0, none⟩ = some (.string x0) ∧ W.cell? ⟨w.heap.size, 1, none⟩ = some (.string x1) ∧ W.cell? ⟨w.heap.size, 2, none⟩ = some (.slice xa2 xn2 xc2) ∧ W.cell? ⟨w.heap.size, 3, none⟩ = some (.bool x3) ∧ W.cell? ⟨w.heap.size, 4, none⟩ = some (.slice xa4 xn4 xc4) ∧ W.cell? ⟨w.heap.size, 5, none⟩ = some (.slice xa5 xn5 xc5) ∧ W.cell? ⟨w.heap.size + 1, 0, none⟩ = some (.string y0) ∧ W.cell? ⟨w.heap.size + 1, 1, none⟩ = some (.string y1) ∧ W.cell? ⟨w.heap.size + 1, 2, none⟩ = some (.slice ya2 yn2 yc2) ∧ W.cell? ⟨w.heap.size + 1, 3, none⟩ = some (.bool y3) ∧ W.cell? ⟨w.heap.size + 1, 4, none⟩ = some (.slice ya4 yn4 yc4) ∧ W.cell? ⟨w.heap.size + 1, 5, none⟩ = some (.slice ya5 yn5 yc5)) := Lib.hid fun W hW => ⟨(Lib.cell_of_heap ((hW.block _ (heap_lt k1)).trans k1) 0).trans rfl, (Lib.cell_of_heap ((hW.block _ (heap_lt k1)).trans k1) 1).trans rfl, (Lib.cell_of_heap ((hW.block _ (heap_lt k1)).trans k1) 2).trans rfl, (Lib.cell_of_heap ((hW.block _ (heap_lt k1)).trans k1) 3).trans rfl, (Lib.cell_of_heap ((hW.block _ (heap_lt k1)).trans k1) 4).trans rfl, (Lib.cell_of_heap ((hW.block _ (heap_lt k1)).trans k1) 5).trans rfl, (Lib.cell_of_heap ((hW.block _ (heap_lt k2)).trans k2) 0).trans rfl, (Lib.cell_of_heap ((hW.block _ (heap_lt k2)).trans k2) 1).trans rfl, (Lib.cell_of_heap ((hW.block _ (heap_lt k2)).trans k2) 2).trans rfl, (Lib.cell_of_heap ((hW.block _ (heap_lt k2)).trans k2) 3).trans rfl, (Lib.cell_of_heap ((hW.block _ (heap_lt k2)).trans k2) 4).trans rfl, (Lib.cell_of_heap ((hW.block _ (heap_lt k2)).trans k2) 5).trans rfl⟩
  obtain ⟨d0, d1, d2, d3, d4, d5, d6, d7, d8, d9, d10, d11⟩ := MK.out w2 (Below.refl _ _)
  have HBV : Hid (Below w2.heap.size w2 w2) := Lib.hid (Below.refl _ _)
  try rw [hw2]
  clear hw2 k1 k2
  cases t0 with
  | false =>
    go_wp2_with fail
    go_ret
    exact ⟨ret_b rfl, HB2.out.trans (HBV.out.mono HB2.out.size)⟩
  | true =>
    cases t1 with
    | false =>
      go_wp2_with fail
      go_ret
      exact ⟨ret_b rfl, HB2.out.trans (HBV.out.mono HB2.out.size)⟩
    | true =>
      cases t2 with
      | false =>
        go_wp2_with fail
        refine (H2.out _ (HB2.out.trans (HBV.out.mono HB2.out.size))).mono ?_; rintro e w5 ⟨rfl, hb⟩
        have HBV2 : Hid (Below w2.heap.size w2 w5) := Lib.hid (HBV.out.trans (hb.mono HBV.out.size))
        clear HBV hb
        have HBV := HBV2
        clear HBV2
        go_wp2_with fail
        go_ret
        exact ⟨ret_b rfl, HB2.out.trans (HBV.out.mono HB2.out.size)⟩
      | true =>
        go_wp2_with fail
        refine (H2.out _ (HB2.out.trans (HBV.out.mono HB2.out.size))).mono ?_; rintro e w5 ⟨rfl, hb⟩
        have HBV2 : Hid (Below w2.heap.size w2 w5) := Lib.hid (HBV.out.trans (hb.mono HBV.out.size))
        obtain ⟨d0, d1, d2, d3, d4, d5, d6, d7, d8, d9, d10, d11⟩ := MK.out w5 HBV2.out
        clear HBV hb
        have HBV := HBV2
        clear HBV2
        cases t3 with
        | false =>
          go_wp2_with fail
          go_ret
          exact ⟨ret_b rfl, HB2.out.trans (HBV.out.mono HB2.out.size)⟩
        | true =>
          cases t4 with
          | false =>
            go_wp2_with fail
            refine (H4.out _ (HB2.out.trans (HBV.out.mono HB2.out.size))).mono ?_; rintro e w5 ⟨rfl, hb⟩
            have HBV2 : Hid (Below w2.heap.size w2 w5) := Lib.hid (HBV.out.trans (hb.mono HBV.out.size))
            clear HBV hb
            have HBV := HBV2
            clear HBV2
            go_wp2_with fail
            go_ret
            exact ⟨ret_b rfl, HB2.out.trans (HBV.out.mono HB2.out.size)⟩
          | true =>
            go_wp2_with fail
            refine (H4.out _ (HB2.out.trans (HBV.out.mono HB2.out.size))).mono ?_; rintro e w5 ⟨rfl, hb⟩
            have HBV2 : Hid (Below w2.heap.size w2 w5) := Lib.hid (HBV.out.trans (hb.mono HBV.out.size))
            obtain ⟨d0, d1, d2, d3, d4, d5, d6, d7, d8, d9, d10, d11⟩ := MK.out w5 HBV2.out
            clear HBV hb
            have HBV := HBV2
            clear HBV2
            cases t5 with
            | false =>
              go_wp2_with fail
              refine (H5.out _ (HB2.out.trans (HBV.out.mono HB2.out.size))).mono ?_; rintro e w5 ⟨rfl, hb⟩
              have HBV2 : Hid (Below w2.heap.size w2 w5) := Lib.hid (HBV.out.trans (hb.mono HBV.out.size))
              clear HBV hb
              have HBV := HBV2
              clear HBV2
              go_wp2_with fail
              go_ret
              exact ⟨ret_b rfl, HB2.out.trans (HBV.out.mono HB2.out.size)⟩
            | true =>
              go_wp2_with fail
              refine (H5.out _ (HB2.out.trans (HBV.out.mono HB2.out.size))).mono ?_; rintro e w5 ⟨rfl, hb⟩
              have HBV2 : Hid (Below w2.heap.size w2 w5) := Lib.hid (HBV.out.trans (hb.mono HBV.out.size))
              clear HBV hb
              have HBV := HBV2
              clear HBV2
              go_wp2_with fail
              go_ret
              exact ⟨ret_b rfl, HB2.out.trans (HBV.out.mono HB2.out.size)⟩
set_option maxRecDepth 100000 in
set_option maxHeartbeats 4000000 in
theorem dop_c (x0 y0 : Int) (x1 y1 : ByteArray) (xa2 ya2 : Option Addr) (xn2 xc2 yn2 yc2 : Nat) (x3 y3 : Int) (xa4 ya4 : Option Addr) (xn4 xc4 yn4 yc4 : Nat) (bv bv1 : Nat) (t0 t1 t2 t3 t4 : Bool) (w : World)
    (hcap : w.cell? ⟨bv, 0, none⟩ = some (.func (.func 20) #[] #[]))
    (hcap1 : w.cell? ⟨bv1, 0, none⟩ = some (.func (.func 17) #[] #[]))
    (h0 : (x0 == y0) = t0)
    (h1 : (x1.toList == y1.toList) = t1)
    (h2 : (x3 == y3) = t2)
    (H3 : Hid (∀ W, Below w.heap.size w W → Calls Tryz.prog 24 #[.slice xa2 xn2 xc2, .slice ya2 yn2 yc2, .func (.func 20) #[] #[]] W fun e w' => e = .returned (.bool t3) ∧ Below W.heap.size W w'))
    (H4 : Hid (∀ W, Below w.heap.size w W → Calls Tryz.prog 25 #[.slice xa4 xn4 xc4, .slice ya4 yn4 yc4, .func (.func 17) #[] #[]] W fun e w' => e = .returned (.bool t4) ∧ Below W.heap.size W w')) :
    Calls Tryz.prog 23 #[.agg #[.int .u8 x0, .string x1, .slice xa2 xn2 xc2, .int .i64 x3, .slice xa4 xn4 xc4], .agg #[.int .u8 y0, .string y1, .slice ya2 yn2 yc2, .int .i64 y3, .slice ya4 yn4 yc4], .pointer (some ⟨bv, 0, none⟩), .pointer (some ⟨bv1, 0, none⟩)] w fun e w' => e = .returned (.bool (t0 && t1 && t2 && t3 && t4)) ∧ Below w.heap.size w w' := by
  go_enter Tryz.func23, Tryz.ntmps23
  go_upto_region 1 with fail
  obtain ⟨w2, hw2⟩ : ∃ w2, (w.alloc (.cells #[.int .u8 x0, .string x1, .slice xa2 xn2 xc2, .int .i64 x3, .slice xa4 xn4 xc4] 35 (0, 0))).alloc (.cells #[.int .u8 y0, .string y1, .slice ya2 yn2 yc2, .int .i64 y3, .slice ya4 yn4 yc4] 35 (0, 0)) = w2 := ⟨_, rfl⟩
  have HB2 : Hid (Below w.heap.size w w2) := Lib.hid (by rw [← hw2]; exact ((Below.refl _ _).alloc (Nat.le_refl _) _).alloc (by simp) _)
  have k1 : w2.heap[w.heap.size]? = some (.cells #[.int .u8 x0, .string x1, .slice xa2 xn2 xc2, .int .i64 x3, .slice xa4 xn4 xc4] 35 (0, 0)) := by rw [← hw2]; exact heap_old (heap_new _ _ _ rfl)
  have k2 : w2.heap[w.heap.size + 1]? = some (.cells #[.int .u8 y0, .string y1, .slice ya2 yn2 yc2, .int .i64 y3, .slice ya4 yn4 yc4] 35 (0, 0)) := by rw [← hw2]; exact heap_new _ _ _ (by simp)
  have MK : Hid (∀ W, Below w2.heap.size w2 W → W.cell? ⟨w.heap.size, 0, none⟩ = some (.int .u8 x0) ∧ W.cell? ⟨w.heap.size, 1, none⟩ = some (.string x1) ∧ W.cell? ⟨w.heap.size, 2, none⟩ = some (.slice xa2 xn2 xc2) ∧ W.cell? ⟨w.heap.size, 3, none⟩ = some (.int .i64 x3) ∧ W.cell? ⟨w.heap.size, 4, none⟩ = some (.slice xa4 xn4 xc4) ∧ W.cell? ⟨w.heap.size + 1, 0, none⟩ = some (.int .u8 y0) ∧ W.cell? ⟨w.heap.size + 1, 1, none⟩ = some (.string y1) ∧ W.cell? ⟨w.heap.size + 1, 2, none⟩ = some (.slice ya2 yn2 yc2) ∧ W.cell? ⟨w.heap.size + 1, 3, none⟩ = some (.int .i64 y3) ∧ W.cell? ⟨w.heap.size + 1, 4, none⟩ = some (.slice ya4 yn4 yc4) ∧ W.cell? ⟨bv, 0, none⟩ = some (.func (.func 20) #[] #[]) ∧ W.cell? ⟨bv1, 0, none⟩ = some (.func (.func 17) #[] #[])) := Lib.hid fun W hW => ⟨(Lib.cell_of_heap ((hW.block _ (heap_lt k1)).trans k1) 0).trans rfl, (Lib.cell_of_heap ((hW.block _ (heap_lt k1)).trans k1) 1).trans rfl, (Lib.cell_of_heap ((hW.block _ (heap_lt k1)).trans k1) 2).trans rfl, (Lib.cell_of_heap ((hW.block _ (heap_lt k1)).trans k1) 3).trans rfl, (Lib.cell_of_heap ((hW.block _ (heap_lt k1)).trans k1) 4).trans rfl, (Lib.cell_of_heap ((hW.block _ (heap_lt k2)).trans k2) 0).trans rfl, (Lib.cell_of_heap ((hW.block _ (heap_lt k2)).trans k2) 1).trans rfl, (Lib.cell_of_heap ((hW.block _ (heap_lt k2)).trans k2) 2).trans rfl, (Lib.cell_of_heap ((hW.block _ (heap_lt k2)).trans k2) 3).trans rfl, (Lib.cell_of_heap ((hW.block _ (heap_lt k2)).trans k2) 4).trans rfl, (hW.cell (p := ⟨_, _, none⟩) (Nat.lt_of_lt_of_le (lt_of_cell hcap) HB2.out.size)).trans ((HB2.out.cell (p := ⟨_, _, none⟩) (lt_of_cell hcap)).trans hcap), (hW.cell (p := ⟨_, _, none⟩) (Nat.lt_of_lt_of_le (lt_of_cell hcap1) HB2.out.size)).trans ((HB2.out.cell (p := ⟨_, _, none⟩) (lt_of_cell hcap1)).trans hcap1)⟩
  obtain ⟨d0, d1, d2, d3, d4, d5, d6, d7, d8, d9, dv, dv1⟩ := MK.out w2 (Below.refl _ _)
  have HBV : Hid (Below w2.heap.size w2 w2) := Lib.hid (Below.refl _ _)
  try rw [hw2]
  clear hw2 k1 k2 hcap hcap1
  cases t0 with
  | false =>
    go_wp2_with fail
    go_ret
    exact ⟨ret_b rfl, HB2.out.trans (HBV.out.mono HB2.out.size)⟩
  | true =>
    cases t1 with
    | false =>
      go_wp2_with fail
      go_ret
      exact ⟨ret_b rfl, HB2.out.trans (HBV.out.mono HB2.out.size)⟩
    | true =>
      cases t2 with
      | false =>
        go_wp2_with fail
        go_ret
        exact ⟨ret_b rfl, HB2.out.trans (HBV.out.mono HB2.out.size)⟩
      | true =>
        cases t3 with
        | false =>
          go_wp2_with fail
          refine (H3.out _ (HB2.out.trans (HBV.out.mono HB2.out.size))).mono ?_; rintro e w5 ⟨rfl, hb⟩
          have HBV2 : Hid (Below w2.heap.size w2 w5) := Lib.hid (HBV.out.trans (hb.mono HBV.out.size))
          clear HBV hb
          have HBV := HBV2
          clear HBV2
          go_wp2_with fail
          go_ret
          exact ⟨ret_b rfl, HB2.out.trans (HBV.out.mono HB2.out.size)⟩
        | true =>
          go_wp2_with fail
          refine (H3.out _ (HB2.out.trans (HBV.out.mono HB2.out.size))).mono ?_; rintro e w5 ⟨rfl, hb⟩
          have HBV2 : Hid (Below w2.heap.size w2 w5) := Lib.hid (HBV.out.trans (hb.mono HBV.out.size))
          obtain ⟨d0, d1, d2, d3, d4, d5, d6, d7, d8, d9, dv, dv1⟩ := MK.out w5 HBV2.out
          clear HBV hb
          have HBV := HBV2
          clear HBV2
          cases t4 with
          | false =>
            go_wp2_with fail
            refine (H4.out _ (HB2.out.trans (HBV.out.mono HB2.out.size))).mono ?_; rintro e w5 ⟨rfl, hb⟩
            have HBV2 : Hid (Below w2.heap.size w2 w5) := Lib.hid (HBV.out.trans (hb.mono HBV.out.size))
            clear HBV hb
            have HBV := HBV2
            clear HBV2
            go_wp2_with fail
            go_ret
            exact ⟨ret_b rfl, HB2.out.trans (HBV.out.mono HB2.out.size)⟩
          | true =>
            go_wp2_with fail
            refine (H4.out _ (HB2.out.trans (HBV.out.mono HB2.out.size))).mono ?_; rintro e w5 ⟨rfl, hb⟩
            have HBV2 : Hid (Below w2.heap.size w2 w5) := Lib.hid (HBV.out.trans (hb.mono HBV.out.size))
            clear HBV hb
            have HBV := HBV2
            clear HBV2
            go_wp2_with fail
            go_ret
            exact ⟨ret_b rfl, HB2.out.trans (HBV.out.mono HB2.out.size)⟩
set_option maxRecDepth 100000 in
set_option maxHeartbeats 4000000 in
theorem dfr_c (x0 y0 : ByteArray) (x1 y1 : ByteArray) (x2 y2 : Int) (xa3 ya3 : Option Addr) (xn3 xc3 yn3 yc3 : Nat) (bv : Nat) (t0 t1 t2 t3 : Bool) (w : World)
    (hcap : w.cell? ⟨bv, 0, none⟩ = some (.func (.func 17) #[] #[]))
    (h0 : (x0.toList == y0.toList) = t0)
    (h1 : (x1.toList == y1.toList) = t1)
    (h2 : (x2 == y2) = t2)
    (H3 : Hid (∀ W, Below w.heap.size w W → Calls Tryz.prog 25 #[.slice xa3 xn3 xc3, .slice ya3 yn3 yc3, .func (.func 17) #[] #[]] W fun e w' => e = .returned (.bool t3) ∧ Below W.heap.size W w')) :
    Calls Tryz.prog 26 #[.agg #[.string x0, .string x1, .int .i64 x2, .slice xa3 xn3 xc3], .agg #[.string y0, .string y1, .int .i64 y2, .slice ya3 yn3 yc3], .pointer (some ⟨bv, 0, none⟩)] w fun e w' => e = .returned (.bool (t0 && t1 && t2 && t3)) ∧ Below w.heap.size w w' := by
  go_enter Tryz.func26, Tryz.ntmps26
  go_upto_region 1 with fail
  obtain ⟨w2, hw2⟩ : ∃ w2, (w.alloc (.cells #[.string x0, .string x1, .int .i64 x2, .slice xa3 xn3 xc3] 38 (0, 0))).alloc (.cells #[.string y0, .string y1, .int .i64 y2, .slice ya3 yn3 yc3] 38 (0, 0)) = w2 := ⟨_, rfl⟩
  have HB2 : Hid (Below w.heap.size w w2) := Lib.hid (by rw [← hw2]; exact ((Below.refl _ _).alloc (Nat.le_refl _) _).alloc (by simp) _)
  have k1 : w2.heap[w.heap.size]? = some (.cells #[.string x0, .string x1, .int .i64 x2, .slice xa3 xn3 xc3] 38 (0, 0)) := by rw [← hw2]; exact heap_old (heap_new _ _ _ rfl)
  have k2 : w2.heap[w.heap.size + 1]? = some (.cells #[.string y0, .string y1, .int .i64 y2, .slice ya3 yn3 yc3] 38 (0, 0)) := by rw [← hw2]; exact heap_new _ _ _ (by simp)
  have MK : Hid (∀ W, Below w2.heap.size w2 W → W.cell? ⟨w.heap.size, 0, none⟩ = some (.string x0) ∧ W.cell? ⟨w.heap.size, 1, none⟩ = some (.string x1) ∧ W.cell? ⟨w.heap.size, 2, none⟩ = some (.int .i64 x2) ∧ W.cell? ⟨w.heap.size, 3, none⟩ = some (.slice xa3 xn3 xc3) ∧ W.cell? ⟨w.heap.size + 1, 0, none⟩ = some (.string y0) ∧ W.cell? ⟨w.heap.size + 1, 1, none⟩ = some (.string y1) ∧ W.cell? ⟨w.heap.size + 1, 2, none⟩ = some (.int .i64 y2) ∧ W.cell? ⟨w.heap.size + 1, 3, none⟩ = some (.slice ya3 yn3 yc3) ∧ W.cell? ⟨bv, 0, none⟩ = some (.func (.func 17) #[] #[])) := Lib.hid fun W hW => ⟨(Lib.cell_of_heap ((hW.block _ (heap_lt k1)).trans k1) 0).trans rfl, (Lib.cell_of_heap ((hW.block _ (heap_lt k1)).trans k1) 1).trans rfl, (Lib.cell_of_heap ((hW.block _ (heap_lt k1)).trans k1) 2).trans rfl, (Lib.cell_of_heap ((hW.block _ (heap_lt k1)).trans k1) 3).trans rfl, (Lib.cell_of_heap ((hW.block _ (heap_lt k2)).trans k2) 0).trans rfl, (Lib.cell_of_heap ((hW.block _ (heap_lt k2)).trans k2) 1).trans rfl, (Lib.cell_of_heap ((hW.block _ (heap_lt k2)).trans k2) 2).trans rfl, (Lib.cell_of_heap ((hW.block _ (heap_lt k2)).trans k2) 3).trans rfl, (hW.cell (p := ⟨_, _, none⟩) (Nat.lt_of_lt_of_le (lt_of_cell hcap) HB2.out.size)).trans ((HB2.out.cell (p := ⟨_, _, none⟩) (lt_of_cell hcap)).trans hcap)⟩
  obtain ⟨d0, d1, d2, d3, d4, d5, d6, d7, dv⟩ := MK.out w2 (Below.refl _ _)
  have HBV : Hid (Below w2.heap.size w2 w2) := Lib.hid (Below.refl _ _)
  try rw [hw2]
  clear hw2 k1 k2 hcap
  cases t0 with
  | false =>
    go_wp2_with fail
    go_ret
    exact ⟨ret_b rfl, HB2.out.trans (HBV.out.mono HB2.out.size)⟩
  | true =>
    cases t1 with
    | false =>
      go_wp2_with fail
      go_ret
      exact ⟨ret_b rfl, HB2.out.trans (HBV.out.mono HB2.out.size)⟩
    | true =>
      cases t2 with
      | false =>
        go_wp2_with fail
        go_ret
        exact ⟨ret_b rfl, HB2.out.trans (HBV.out.mono HB2.out.size)⟩
      | true =>
        cases t3 with
        | false =>
          go_wp2_with fail
          refine (H3.out _ (HB2.out.trans (HBV.out.mono HB2.out.size))).mono ?_; rintro e w5 ⟨rfl, hb⟩
          have HBV2 : Hid (Below w2.heap.size w2 w5) := Lib.hid (HBV.out.trans (hb.mono HBV.out.size))
          clear HBV hb
          have HBV := HBV2
          clear HBV2
          go_wp2_with fail
          go_ret
          exact ⟨ret_b rfl, HB2.out.trans (HBV.out.mono HB2.out.size)⟩
        | true =>
          go_wp2_with fail
          refine (H3.out _ (HB2.out.trans (HBV.out.mono HB2.out.size))).mono ?_; rintro e w5 ⟨rfl, hb⟩
          have HBV2 : Hid (Below w2.heap.size w2 w5) := Lib.hid (HBV.out.trans (hb.mono HBV.out.size))
          clear HBV hb
          have HBV := HBV2
          clear HBV2
          go_wp2_with fail
          go_ret
          exact ⟨ret_b rfl, HB2.out.trans (HBV.out.mono HB2.out.size)⟩
end Go.Proofs.YtbejhdhhkpllfaaGreatDoor
