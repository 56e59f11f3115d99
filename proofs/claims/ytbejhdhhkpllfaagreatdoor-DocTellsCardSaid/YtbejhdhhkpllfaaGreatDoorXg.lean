/- doc.sel, doc.input: which selections, variables may be, by themselves. -/
import Derived.Test.YtbejhdhhkpllfaaGreatDoorXe
import Derived.Test.YtbejhdhhkpllfaaGreatDoorXd
import Derived.Test.YtbejhdhhkpllfaaGreatDoorXz
import Derived.Test.YtbejhdhhkpllfaaGreatDoorDo
set_option linter.unusedSimpArgs false
set_option linter.unusedVariables false
namespace Go.Proofs.YtbejhdhhkpllfaaGreatDoor
open Go.RowKit
set_option maxRecDepth 100000 in
set_option maxHeartbeats 8000000 in
theorem dsl_c (x0 : Int) (x1 : ByteArray) (x2 : ByteArray) (xa3 : Option Addr) (xn3 xc3 : Nat) (xa4 : Option Addr) (xn4 xc4 : Nat) (x5 : Int) (tA tD tN tL k1 k2 k3 m0 m1 m2 eA zA zN on : Bool) (w : World)
    (HA : Hid (∀ W, Below w.heap.size w W → Calls Tryz.prog 56 #[.slice xa3 xn3 xc3] W fun e w' => (∃ tv, e = .returned (.tuple #[tv, .int .i64 (cond tA 0 8)])) ∧ Below W.heap.size W w'))
    (HD : Hid (∀ W, Below w.heap.size w W → Calls Tryz.prog 57 #[.slice xa4 xn4 xc4] W fun e w' => (∃ tv, e = .returned (.tuple #[tv, .int .i64 (cond tD 0 8)])) ∧ Below W.heap.size W w'))
    (HN : Hid (∀ W, Below w.heap.size w W → Calls Tryz.prog 11 #[.string x2] W fun e w' => e = .returned (.bool tN) ∧ Below W.heap.size W w'))
    (HL : Hid (∀ W, Below w.heap.size w W → Calls Tryz.prog 11 #[.string x1] W fun e w' => e = .returned (.bool tL) ∧ Below W.heap.size W w'))
    (hk1 : (x0 == 1) = k1)
    (hk2 : (x0 == 2) = k2)
    (hk3 : (x0 == 3) = k3)
    (hm0 : decide (x5 < 0) = m0)
    (hm1 : (x5 == 0) = m1)
    (hm2 : decide (0 < x5) = m2)
    (heA : ((xn3 : Int) == 0) = eA)
    (heA2 : (xn3 == 0) = eA)
    (hzA : (x1.toList == []) = zA)
    (hzAe : x1.toList.isEmpty = zA)
    (hzAp : zA = true → x1.toList = [])
    (hzAn : zA = false → ¬ x1.toList = [])
    (hzN : (x2.toList == []) = zN)
    (hzNe : x2.toList.isEmpty = zN)
    (hzNp : zN = true → x2.toList = [])
    (hzNn : zN = false → ¬ x2.toList = [])
    (hon : (x2.toList == [111, 110]) = on)
    (hone : (x2.toList != [111, 110]) = !on)
    (honp : on = true → x2.toList = [111, 110])
    (honn : on = false → ¬ x2.toList = [111, 110]) :
    Calls Tryz.prog 37 #[.agg #[.int .u8 x0, .string x1, .string x2, .slice xa3 xn3 xc3, .slice xa4 xn4 xc4, .int .i64 x5]] w fun e w' => e = .returned (.bool (tA && tD && !m0 && cond k1 (tN && (zA || tL)) (cond k2 (tN && !on && zA && eA && m1) (cond k3 ((zN || tN) && zA && eA && m2) false)))) ∧ Below w.heap.size w w' := by
  go_enter Tryz.func37, Tryz.ntmps37
  go_upto_region 1 with fail
  obtain ⟨w2, hw2⟩ : ∃ w2, w.alloc (.cells #[.int .u8 x0, .string x1, .string x2, .slice xa3 xn3 xc3, .slice xa4 xn4 xc4, .int .i64 x5] 52 (0, 0)) = w2 := ⟨_, rfl⟩
  have HB2 : Hid (Below w.heap.size w w2) := Lib.hid (by rw [← hw2]; exact (Below.refl _ _).alloc (Nat.le_refl _) _)
  have k1' : w2.heap[w.heap.size]? = some (.cells #[.int .u8 x0, .string x1, .string x2, .slice xa3 xn3 xc3, .slice xa4 xn4 xc4, .int .i64 x5] 52 (0, 0)) := by rw [← hw2]; exact heap_new _ _ _ rfl
  have MK : Hid (∀ W, Below w2.heap.size w2 W → W.cell? ⟨w.heap.size, 0, none⟩ = some (.int .u8 x0) ∧ W.cell? ⟨w.heap.size, 1, none⟩ = some (.string x1) ∧ W.cell? ⟨w.heap.size, 2, none⟩ = some (.string x2) ∧ W.cell? ⟨w.heap.size, 3, none⟩ = some (.slice xa3 xn3 xc3) ∧ W.cell? ⟨w.heap.size, 4, none⟩ = some (.slice xa4 xn4 xc4) ∧ W.cell? ⟨w.heap.size, 5, none⟩ = some (.int .i64 x5)) := Lib.hid fun W hW => ⟨(Lib.cell_of_heap ((hW.block _ (heap_lt k1')).trans k1') 0).trans rfl, (Lib.cell_of_heap ((hW.block _ (heap_lt k1')).trans k1') 1).trans rfl, (Lib.cell_of_heap ((hW.block _ (heap_lt k1')).trans k1') 2).trans rfl, (Lib.cell_of_heap ((hW.block _ (heap_lt k1')).trans k1') 3).trans rfl, (Lib.cell_of_heap ((hW.block _ (heap_lt k1')).trans k1') 4).trans rfl, (Lib.cell_of_heap ((hW.block _ (heap_lt k1')).trans k1') 5).trans rfl⟩
  obtain ⟨d0, d1, d2, d3, d4, d5⟩ := MK.out w2 (Below.refl _ _)
  have HBV : Hid (Below w2.heap.size w2 w2) := Lib.hid (Below.refl _ _)
  try rw [hw2]
  clear hw2 k1'
  cases tA with
  | false =>
    go_wp2_with fail
    refine (HA.out _ (HB2.out.trans (HBV.out.mono HB2.out.size))).mono ?_; rintro e w5 ⟨⟨tv, rfl⟩, hb⟩
    have HBV2 : Hid (Below w2.heap.size w2 w5) := Lib.hid (HBV.out.trans (hb.mono HBV.out.size))
    obtain ⟨d0, d1, d2, d3, d4, d5⟩ := MK.out w5 HBV2.out
    clear HBV hb
    have HBV := HBV2
    clear HBV2
    cases tD with
    | false =>
      go_wp2_with fail
      refine (HD.out _ (HB2.out.trans (HBV.out.mono HB2.out.size))).mono ?_; rintro e w5 ⟨⟨tv, rfl⟩, hb⟩
      have HBV2 : Hid (Below w2.heap.size w2 w5) := Lib.hid (HBV.out.trans (hb.mono HBV.out.size))
      obtain ⟨d0, d1, d2, d3, d4, d5⟩ := MK.out w5 HBV2.out
      clear HBV hb
      have HBV := HBV2
      clear HBV2
      go_wp2_with fail
      go_ret
      exact ⟨ret_b rfl, HB2.out.trans (HBV.out.mono HB2.out.size)⟩
    | true =>
      go_wp2_with fail
      refine (HD.out _ (HB2.out.trans (HBV.out.mono HB2.out.size))).mono ?_; rintro e w5 ⟨⟨tv, rfl⟩, hb⟩
      have HBV2 : Hid (Below w2.heap.size w2 w5) := Lib.hid (HBV.out.trans (hb.mono HBV.out.size))
      obtain ⟨d0, d1, d2, d3, d4, d5⟩ := MK.out w5 HBV2.out
      clear HBV hb
      have HBV := HBV2
      clear HBV2
      go_wp2_with fail
      go_ret
      exact ⟨ret_b rfl, HB2.out.trans (HBV.out.mono HB2.out.size)⟩
  | true =>
    go_wp2_with fail
    refine (HA.out _ (HB2.out.trans (HBV.out.mono HB2.out.size))).mono ?_; rintro e w5 ⟨⟨tv, rfl⟩, hb⟩
    have HBV2 : Hid (Below w2.heap.size w2 w5) := Lib.hid (HBV.out.trans (hb.mono HBV.out.size))
    obtain ⟨d0, d1, d2, d3, d4, d5⟩ := MK.out w5 HBV2.out
    clear HBV hb
    have HBV := HBV2
    clear HBV2
    cases tD with
    | false =>
      go_wp2_with fail
      refine (HD.out _ (HB2.out.trans (HBV.out.mono HB2.out.size))).mono ?_; rintro e w5 ⟨⟨tv, rfl⟩, hb⟩
      have HBV2 : Hid (Below w2.heap.size w2 w5) := Lib.hid (HBV.out.trans (hb.mono HBV.out.size))
      obtain ⟨d0, d1, d2, d3, d4, d5⟩ := MK.out w5 HBV2.out
      clear HBV hb
      have HBV := HBV2
      clear HBV2
      go_wp2_with fail
      go_ret
      exact ⟨ret_b rfl, HB2.out.trans (HBV.out.mono HB2.out.size)⟩
    | true =>
      go_wp2_with fail
      refine (HD.out _ (HB2.out.trans (HBV.out.mono HB2.out.size))).mono ?_; rintro e w5 ⟨⟨tv, rfl⟩, hb⟩
      have HBV2 : Hid (Below w2.heap.size w2 w5) := Lib.hid (HBV.out.trans (hb.mono HBV.out.size))
      obtain ⟨d0, d1, d2, d3, d4, d5⟩ := MK.out w5 HBV2.out
      clear HBV hb
      have HBV := HBV2
      clear HBV2
      cases m0 with
      | false =>
        cases k1 with
        | false =>
          cases k2 with
          | false =>
            cases k3 with
            | false =>
              go_wp2_with fail
              go_ret
              exact ⟨ret_b rfl, HB2.out.trans (HBV.out.mono HB2.out.size)⟩
            | true =>
              cases zN with
              | false =>
                have qzN := hzNn rfl
                go_wp2_with fail
                refine (HN.out _ (HB2.out.trans (HBV.out.mono HB2.out.size))).mono ?_; rintro e w5 ⟨rfl, hb⟩
                have HBV2 : Hid (Below w2.heap.size w2 w5) := Lib.hid (HBV.out.trans (hb.mono HBV.out.size))
                obtain ⟨d0, d1, d2, d3, d4, d5⟩ := MK.out w5 HBV2.out
                clear HBV hb
                have HBV := HBV2
                clear HBV2
                cases tN with
                | false =>
                  go_wp2_with fail
                  go_ret
                  exact ⟨ret_b rfl, HB2.out.trans (HBV.out.mono HB2.out.size)⟩
                | true =>
                  cases zA with
                  | false =>
                    have qzA := hzAn rfl
                    go_wp2_with fail
                    go_ret
                    exact ⟨ret_b rfl, HB2.out.trans (HBV.out.mono HB2.out.size)⟩
                  | true =>
                    have qzA := hzAp rfl
                    cases eA with
                    | false =>
                      go_wp2_with fail
                      go_ret
                      exact ⟨ret_b rfl, HB2.out.trans (HBV.out.mono HB2.out.size)⟩
                    | true =>
                      cases m2 with
                      | false =>
                        go_wp2_with fail
                        go_ret
                        exact ⟨ret_b rfl, HB2.out.trans (HBV.out.mono HB2.out.size)⟩
                      | true =>
                        go_wp2_with fail
                        go_ret
                        exact ⟨ret_b rfl, HB2.out.trans (HBV.out.mono HB2.out.size)⟩
              | true =>
                have qzN := hzNp rfl
                cases zA with
                | false =>
                  have qzA := hzAn rfl
                  go_wp2_with fail
                  go_ret
                  exact ⟨ret_b rfl, HB2.out.trans (HBV.out.mono HB2.out.size)⟩
                | true =>
                  have qzA := hzAp rfl
                  cases eA with
                  | false =>
                    go_wp2_with fail
                    go_ret
                    exact ⟨ret_b rfl, HB2.out.trans (HBV.out.mono HB2.out.size)⟩
                  | true =>
                    cases m2 with
                    | false =>
                      go_wp2_with fail
                      go_ret
                      exact ⟨ret_b rfl, HB2.out.trans (HBV.out.mono HB2.out.size)⟩
                    | true =>
                      go_wp2_with fail
                      go_ret
                      exact ⟨ret_b rfl, HB2.out.trans (HBV.out.mono HB2.out.size)⟩
          | true =>
            go_wp2_with fail
            refine (HN.out _ (HB2.out.trans (HBV.out.mono HB2.out.size))).mono ?_; rintro e w5 ⟨rfl, hb⟩
            have HBV2 : Hid (Below w2.heap.size w2 w5) := Lib.hid (HBV.out.trans (hb.mono HBV.out.size))
            obtain ⟨d0, d1, d2, d3, d4, d5⟩ := MK.out w5 HBV2.out
            clear HBV hb
            have HBV := HBV2
            clear HBV2
            cases tN with
            | false =>
              go_wp2_with fail
              go_ret
              exact ⟨ret_b rfl, HB2.out.trans (HBV.out.mono HB2.out.size)⟩
            | true =>
              cases on with
              | false =>
                have qon := honn rfl
                cases zA with
                | false =>
                  have qzA := hzAn rfl
                  go_wp2_with fail
                  go_ret
                  exact ⟨ret_b rfl, HB2.out.trans (HBV.out.mono HB2.out.size)⟩
                | true =>
                  have qzA := hzAp rfl
                  cases eA with
                  | false =>
                    go_wp2_with fail
                    go_ret
                    exact ⟨ret_b rfl, HB2.out.trans (HBV.out.mono HB2.out.size)⟩
                  | true =>
                    cases m1 with
                    | false =>
                      go_wp2_with fail
                      go_ret
                      exact ⟨ret_b rfl, HB2.out.trans (HBV.out.mono HB2.out.size)⟩
                    | true =>
                      go_wp2_with fail
                      go_ret
                      exact ⟨ret_b rfl, HB2.out.trans (HBV.out.mono HB2.out.size)⟩
              | true =>
                have qon := honp rfl
                go_wp2_with fail
                go_ret
                exact ⟨ret_b rfl, HB2.out.trans (HBV.out.mono HB2.out.size)⟩
        | true =>
          go_wp2_with fail
          refine (HN.out _ (HB2.out.trans (HBV.out.mono HB2.out.size))).mono ?_; rintro e w5 ⟨rfl, hb⟩
          have HBV2 : Hid (Below w2.heap.size w2 w5) := Lib.hid (HBV.out.trans (hb.mono HBV.out.size))
          obtain ⟨d0, d1, d2, d3, d4, d5⟩ := MK.out w5 HBV2.out
          clear HBV hb
          have HBV := HBV2
          clear HBV2
          cases tN with
          | false =>
            go_wp2_with fail
            go_ret
            exact ⟨ret_b rfl, HB2.out.trans (HBV.out.mono HB2.out.size)⟩
          | true =>
            cases zA with
            | false =>
              have qzA := hzAn rfl
              go_wp2_with fail
              refine (HL.out _ (HB2.out.trans (HBV.out.mono HB2.out.size))).mono ?_; rintro e w5 ⟨rfl, hb⟩
              have HBV2 : Hid (Below w2.heap.size w2 w5) := Lib.hid (HBV.out.trans (hb.mono HBV.out.size))
              obtain ⟨d0, d1, d2, d3, d4, d5⟩ := MK.out w5 HBV2.out
              clear HBV hb
              have HBV := HBV2
              clear HBV2
              go_wp2_with fail
              go_ret
              exact ⟨ret_b rfl, HB2.out.trans (HBV.out.mono HB2.out.size)⟩
            | true =>
              have qzA := hzAp rfl
              go_wp2_with fail
              go_ret
              exact ⟨ret_b rfl, HB2.out.trans (HBV.out.mono HB2.out.size)⟩
      | true =>
        go_wp2_with fail
        go_ret
        exact ⟨ret_b rfl, HB2.out.trans (HBV.out.mono HB2.out.size)⟩
set_option maxRecDepth 100000 in
set_option maxHeartbeats 8000000 in
theorem din_c (x0 : ByteArray) (x1 : ByteArray) (xa2 : Option Addr) (xn2 xc2 : Nat) (x3 : Bool) (xa4 : Option Addr) (xn4 xc4 : Nat) (xa5 : Option Addr) (xn5 xc5 : Nat) (tT tN tV tP tC b0 e0 : Bool) (w : World)
    (HT : Hid (∀ W, Below w.heap.size w W → Calls Tryz.prog 39 #[.agg #[.string x1, .slice xa2 xn2 xc2]] W fun e w' => (∃ tv, e = .returned (.tuple #[tv, .int .i64 (cond tT 0 8)])) ∧ Below W.heap.size W w'))
    (HN : Hid (∀ W, Below w.heap.size w W → Calls Tryz.prog 11 #[.string x0] W fun e w' => e = .returned (.bool tN) ∧ Below W.heap.size W w'))
    (HV : Hid (∀ W, Below w.heap.size w W → Calls Tryz.prog 40 #[.slice xa4 xn4 xc4] W fun e w' => (∃ tv, e = .returned (.tuple #[tv, .int .i64 (cond tV 0 8)])) ∧ Below W.heap.size W w'))
    (HP : Hid (∀ W, Below w.heap.size w W → Calls Tryz.prog 41 #[.slice xa4 xn4 xc4] W fun e w' => e = .returned (.bool tP) ∧ Below W.heap.size W w'))
    (HC : Hid (∀ W, Below w.heap.size w W → Calls Tryz.prog 42 #[.slice xa4 xn4 xc4, .func (.func 43) #[] #[]] W fun e w' => e = .returned (.bool tC) ∧ Below W.heap.size W w'))
    (hd : decide ((0 : Int) < (xn5 : Int)) = b0)
    (he : ((xn4 : Int) == 0) = e0)
    (hd2 : decide (0 < xn5) = b0)
    (he2 : (xn4 == 0) = e0) :
    Calls Tryz.prog 15 #[.agg #[.string x0, .string x1, .slice xa2 xn2 xc2, .bool x3, .slice xa4 xn4 xc4, .slice xa5 xn5 xc5]] w fun e w' => e = .returned (.bool (tT && tN && !b0 && cond x3 (tV && (tP || !tC)) e0)) ∧ Below w.heap.size w w' := by
  go_enter Tryz.func15, Tryz.ntmps15
  go_upto_region 1 with fail
  obtain ⟨w2, hw2⟩ : ∃ w2, w.alloc (.cells #[.string x0, .string x1, .slice xa2 xn2 xc2, .bool x3, .slice xa4 xn4 xc4, .slice xa5 xn5 xc5] 48 (0, 0)) = w2 := ⟨_, rfl⟩
  have HB2 : Hid (Below w.heap.size w w2) := Lib.hid (by rw [← hw2]; exact (Below.refl _ _).alloc (Nat.le_refl _) _)
  have k1' : w2.heap[w.heap.size]? = some (.cells #[.string x0, .string x1, .slice xa2 xn2 xc2, .bool x3, .slice xa4 xn4 xc4, .slice xa5 xn5 xc5] 48 (0, 0)) := by rw [← hw2]; exact heap_new _ _ _ rfl
  have MK : Hid (∀ W, Below w2.heap.size w2 W → W.cell? ⟨w.heap.size, 0, none⟩ = some (.string x0) ∧ W.cell? ⟨w.heap.size, 1, none⟩ = some (.string x1) ∧ W.cell? ⟨w.heap.size, 2, none⟩ = some (.slice xa2 xn2 xc2) ∧ W.cell? ⟨w.heap.size, 3, none⟩ = some (.bool x3) ∧ W.cell? ⟨w.heap.size, 4, none⟩ = some (.slice xa4 xn4 xc4) ∧ W.cell? ⟨w.heap.size, 5, none⟩ = some (.slice xa5 xn5 xc5)) := Lib.hid fun W hW => ⟨(Lib.cell_of_heap ((hW.block _ (heap_lt k1')).trans k1') 0).trans rfl, (Lib.cell_of_heap ((hW.block _ (heap_lt k1')).trans k1') 1).trans rfl, (Lib.cell_of_heap ((hW.block _ (heap_lt k1')).trans k1') 2).trans rfl, (Lib.cell_of_heap ((hW.block _ (heap_lt k1')).trans k1') 3).trans rfl, (Lib.cell_of_heap ((hW.block _ (heap_lt k1')).trans k1') 4).trans rfl, (Lib.cell_of_heap ((hW.block _ (heap_lt k1')).trans k1') 5).trans rfl⟩
  obtain ⟨d0, d1, d2, d3, d4, d5⟩ := MK.out w2 (Below.refl _ _)
  have HBV : Hid (Below w2.heap.size w2 w2) := Lib.hid (Below.refl _ _)
  try rw [hw2]
  clear hw2 k1'
  cases tT with
  | false =>
    go_wp2_with fail
    refine (HT.out _ (HB2.out.trans (HBV.out.mono HB2.out.size))).mono ?_; rintro e w5 ⟨⟨tv, rfl⟩, hb⟩
    have HBV2 : Hid (Below w2.heap.size w2 w5) := Lib.hid (HBV.out.trans (hb.mono HBV.out.size))
    obtain ⟨d0, d1, d2, d3, d4, d5⟩ := MK.out w5 HBV2.out
    clear HBV hb
    have HBV := HBV2
    clear HBV2
    cases tN with
    | false =>
      go_wp2_with fail
      refine (HN.out _ (HB2.out.trans (HBV.out.mono HB2.out.size))).mono ?_; rintro e w5 ⟨rfl, hb⟩
      have HBV2 : Hid (Below w2.heap.size w2 w5) := Lib.hid (HBV.out.trans (hb.mono HBV.out.size))
      obtain ⟨d0, d1, d2, d3, d4, d5⟩ := MK.out w5 HBV2.out
      clear HBV hb
      have HBV := HBV2
      clear HBV2
      go_wp2_with fail
      go_ret
      exact ⟨ret_b rfl, HB2.out.trans (HBV.out.mono HB2.out.size)⟩
    | true =>
      go_wp2_with fail
      refine (HN.out _ (HB2.out.trans (HBV.out.mono HB2.out.size))).mono ?_; rintro e w5 ⟨rfl, hb⟩
      have HBV2 : Hid (Below w2.heap.size w2 w5) := Lib.hid (HBV.out.trans (hb.mono HBV.out.size))
      obtain ⟨d0, d1, d2, d3, d4, d5⟩ := MK.out w5 HBV2.out
      clear HBV hb
      have HBV := HBV2
      clear HBV2
      go_wp2_with fail
      go_ret
      exact ⟨ret_b rfl, HB2.out.trans (HBV.out.mono HB2.out.size)⟩
  | true =>
    go_wp2_with fail
    refine (HT.out _ (HB2.out.trans (HBV.out.mono HB2.out.size))).mono ?_; rintro e w5 ⟨⟨tv, rfl⟩, hb⟩
    have HBV2 : Hid (Below w2.heap.size w2 w5) := Lib.hid (HBV.out.trans (hb.mono HBV.out.size))
    obtain ⟨d0, d1, d2, d3, d4, d5⟩ := MK.out w5 HBV2.out
    clear HBV hb
    have HBV := HBV2
    clear HBV2
    cases tN with
    | false =>
      go_wp2_with fail
      refine (HN.out _ (HB2.out.trans (HBV.out.mono HB2.out.size))).mono ?_; rintro e w5 ⟨rfl, hb⟩
      have HBV2 : Hid (Below w2.heap.size w2 w5) := Lib.hid (HBV.out.trans (hb.mono HBV.out.size))
      obtain ⟨d0, d1, d2, d3, d4, d5⟩ := MK.out w5 HBV2.out
      clear HBV hb
      have HBV := HBV2
      clear HBV2
      go_wp2_with fail
      go_ret
      exact ⟨ret_b rfl, HB2.out.trans (HBV.out.mono HB2.out.size)⟩
    | true =>
      go_wp2_with fail
      refine (HN.out _ (HB2.out.trans (HBV.out.mono HB2.out.size))).mono ?_; rintro e w5 ⟨rfl, hb⟩
      have HBV2 : Hid (Below w2.heap.size w2 w5) := Lib.hid (HBV.out.trans (hb.mono HBV.out.size))
      obtain ⟨d0, d1, d2, d3, d4, d5⟩ := MK.out w5 HBV2.out
      clear HBV hb
      have HBV := HBV2
      clear HBV2
      cases b0 with
      | false =>
        cases x3 with
        | false =>
          cases e0 with
          | false =>
            go_wp2_with fail
            go_ret
            exact ⟨ret_b rfl, HB2.out.trans (HBV.out.mono HB2.out.size)⟩
          | true =>
            go_wp2_with fail
            go_ret
            exact ⟨ret_b rfl, HB2.out.trans (HBV.out.mono HB2.out.size)⟩
        | true =>
          cases tV with
          | false =>
            go_wp2_with fail
            refine (HV.out _ (HB2.out.trans (HBV.out.mono HB2.out.size))).mono ?_; rintro e w5 ⟨⟨tv, rfl⟩, hb⟩
            have HBV2 : Hid (Below w2.heap.size w2 w5) := Lib.hid (HBV.out.trans (hb.mono HBV.out.size))
            obtain ⟨d0, d1, d2, d3, d4, d5⟩ := MK.out w5 HBV2.out
            clear HBV hb
            have HBV := HBV2
            clear HBV2
            go_wp2_with fail
            go_ret
            exact ⟨ret_b rfl, HB2.out.trans (HBV.out.mono HB2.out.size)⟩
          | true =>
            go_wp2_with fail
            refine (HV.out _ (HB2.out.trans (HBV.out.mono HB2.out.size))).mono ?_; rintro e w5 ⟨⟨tv, rfl⟩, hb⟩
            have HBV2 : Hid (Below w2.heap.size w2 w5) := Lib.hid (HBV.out.trans (hb.mono HBV.out.size))
            obtain ⟨d0, d1, d2, d3, d4, d5⟩ := MK.out w5 HBV2.out
            clear HBV hb
            have HBV := HBV2
            clear HBV2
            cases tP with
            | false =>
              go_wp2_with fail
              refine (HP.out _ (HB2.out.trans (HBV.out.mono HB2.out.size))).mono ?_; rintro e w5 ⟨rfl, hb⟩
              have HBV2 : Hid (Below w2.heap.size w2 w5) := Lib.hid (HBV.out.trans (hb.mono HBV.out.size))
              obtain ⟨d0, d1, d2, d3, d4, d5⟩ := MK.out w5 HBV2.out
              clear HBV hb
              have HBV := HBV2
              clear HBV2
              cases tC with
              | false =>
                go_wp2_with fail
                refine (HC.out _ (HB2.out.trans (HBV.out.mono HB2.out.size))).mono ?_; rintro e w5 ⟨rfl, hb⟩
                have HBV2 : Hid (Below w2.heap.size w2 w5) := Lib.hid (HBV.out.trans (hb.mono HBV.out.size))
                obtain ⟨d0, d1, d2, d3, d4, d5⟩ := MK.out w5 HBV2.out
                clear HBV hb
                have HBV := HBV2
                clear HBV2
                go_wp2_with fail
                go_ret
                exact ⟨ret_b rfl, HB2.out.trans (HBV.out.mono HB2.out.size)⟩
              | true =>
                go_wp2_with fail
                refine (HC.out _ (HB2.out.trans (HBV.out.mono HB2.out.size))).mono ?_; rintro e w5 ⟨rfl, hb⟩
                have HBV2 : Hid (Below w2.heap.size w2 w5) := Lib.hid (HBV.out.trans (hb.mono HBV.out.size))
                obtain ⟨d0, d1, d2, d3, d4, d5⟩ := MK.out w5 HBV2.out
                clear HBV hb
                have HBV := HBV2
                clear HBV2
                go_wp2_with fail
                go_ret
                exact ⟨ret_b rfl, HB2.out.trans (HBV.out.mono HB2.out.size)⟩
            | true =>
              go_wp2_with fail
              refine (HP.out _ (HB2.out.trans (HBV.out.mono HB2.out.size))).mono ?_; rintro e w5 ⟨rfl, hb⟩
              have HBV2 : Hid (Below w2.heap.size w2 w5) := Lib.hid (HBV.out.trans (hb.mono HBV.out.size))
              obtain ⟨d0, d1, d2, d3, d4, d5⟩ := MK.out w5 HBV2.out
              clear HBV hb
              have HBV := HBV2
              clear HBV2
              go_wp2_with fail
              go_ret
              exact ⟨ret_b rfl, HB2.out.trans (HBV.out.mono HB2.out.size)⟩
      | true =>
        go_wp2_with fail
        go_ret
        exact ⟨ret_b rfl, HB2.out.trans (HBV.out.mono HB2.out.size)⟩
end Go.Proofs.YtbejhdhhkpllfaaGreatDoor
