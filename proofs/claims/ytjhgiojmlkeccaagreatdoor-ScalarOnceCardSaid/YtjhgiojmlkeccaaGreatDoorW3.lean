/- Walks and plain laws of this proof, joined from smaller texts (3). -/
import Derived.Lib.IndexLaws
import Derived.Lib.SlTrimSet
import Derived.Shelf.Strings.SlTrimAscii
import Derived.Test.YtjhgiojmlkeccaaGreatDoorShelf
import Derived.Laws.RangeAny
import Derived.Laws.Cover4
import Derived.Laws.RangeString
import Derived.Deep.QuietTactic
import Derived.BigQuiet
import Derived.Laws.MakeOwn
import Derived.Deep.LoopGhost
import Derived.IntWalk
import Derived.Lib.IndexAny
import Derived.Lib.OthersKept
import Derived.Laws.Rows
import Derived.Laws.Tables
import Derived.Laws.CopyOwn
import Derived.Test.YtjhgiojmlkeccaaGreatDoorW2
set_option linter.unusedSimpArgs false
set_option linter.unusedVariables false
namespace Go.Proofs.YtjhgiojmlkeccaaGreatDoor
open Go.RowKit Go.Shelf
set_option maxRecDepth 100000 in
set_option maxHeartbeats 8000000 in
theorem dparse_m (s0 s1 s2 s3 s4 s5 s6 s7 s8 s9 s10 s11 s12 s13 s14 s15 sE : ByteArray) (b1 b2 b3 b4 b5 b6 b7 b8 b9 b10 b11 b12 b13 b14 b15 bE : Bool) (y q1 mo q2 d q3 h q4 mi q5 se na oh q6 om : Int) (hy0 : 0 ≤ y) (hy1 : y ≤ 9999) (hm0 : 1 ≤ mo) (hm1 : mo ≤ 12) (hd0 : 1 ≤ d) (hd1 : d ≤ 31) (hh0 : 0 ≤ h) (hh1 : h ≤ 23) (hi0 : 0 ≤ mi) (hi1 : mi ≤ 59) (hs0 : 0 ≤ se) (hs1 : se ≤ 59) (sd : Int) (hsd0 : -1000 ≤ sd) (hsd1 : sd ≤ 4000000) (dy dm dd ck : Int) (u1 u2 u3 u4 : Bool) (rs rn re : Int) (hu1 : (dy != y) = u1) (hu2 : (dm != mo) = u2) (hu3 : (dd != d) = u3) (hu4 : (ck == 0) = u4) (w : World) (H0 : Hid (DNum 4 0 9999 y s0 false s1 b1)) (H1 : Hid (DMark ⟨#[45]⟩ q1 s1 b1 s2 b2)) (H2 : Hid (DNum 2 1 12 mo s2 b2 s3 b3)) (H3 : Hid (DMark ⟨#[45]⟩ q2 s3 b3 s4 b4)) (H4 : Hid (DNum 2 1 31 d s4 b4 s5 b5)) (H5 : Hid (DMark ⟨#[84, 116]⟩ q3 s5 b5 s6 b6)) (H6 : Hid (DNum 2 0 23 h s6 b6 s7 b7)) (H7 : Hid (DMark ⟨#[58]⟩ q4 s7 b7 s8 b8)) (H8 : Hid (DNum 2 0 59 mi s8 b8 s9 b9)) (H9 : Hid (DMark ⟨#[58]⟩ q5 s9 b9 s10 b10)) (H10 : Hid (DNum 2 0 59 se s10 b10 s11 b11)) (H11 : Hid (DFrac na s11 b11 s12 b12)) (H12 : Hid (DMark ⟨#[90, 122, 43, 45]⟩ 45 s12 b12 s13 b13)) (H13 : Hid (DNum 2 0 23 oh s13 b13 s14 b14)) (H14 : Hid (DMark ⟨#[58]⟩ q6 s14 b14 s15 b15)) (H15 : Hid (DNum 2 0 59 om s15 b15 sE bE)) (HS : Hid (∀ W, Calls Tryz.prog 75 #[.int .i64 y, .int .i64 mo, .int .i64 d] W fun e w' => e = .returned (.int .i64 sd) ∧ W = w')) (HD : Hid (∀ W, Calls Tryz.prog 74 #[.int .i64 sd] W fun e w' => e = .returned (.tuple #[.int .i64 dy, .int .i64 dm, .int .i64 dd]) ∧ W = w'))
    (HCK : Hid (∀ W, Calls Tryz.prog 76 #[.agg #[.int .i64 ((sd + 60) * 86400 + (3600 * h + 60 * mi + se - 60 * -(60 * oh + om))), .int .i64 na]] W fun e w' => e = .returned (.int .i64 ck) ∧ Below W.heap.size W w')) (ho0 : 0 ≤ oh) (ho1 : oh ≤ 23) (hp0 : 0 ≤ om) (hp1 : om ≤ 59)
    (hnil : sE.toList = [] → sE = ⟨#[]⟩) (hno : (bE = true ∨ ¬ sE.toList = [] ∨ u1 = true ∨ u2 = true ∨ u3 = true ∨ u4 = false) → (.tuple #[.agg #[.int .i64 rs, .int .i64 rn], .int .i64 re] : Value) = .tuple #[.agg #[.int .i64 0, .int .i64 0], .int .i64 120]) (hyes : sE.toList = [] → bE = false → u1 = false → u2 = false → u3 = false → u4 = true → (.tuple #[.agg #[.int .i64 rs, .int .i64 rn], .int .i64 re] : Value) = .tuple #[.agg #[.int .i64 ((sd + 60) * 86400 + (3600 * h + 60 * mi + se - 60 * -(60 * oh + om))), .int .i64 na], .int .i64 0]) :
    Calls Tryz.prog 50 #[.string s0] w fun e w' => e = .returned (.tuple #[.agg #[.int .i64 rs, .int .i64 rn], .int .i64 re]) ∧ Below w.heap.size w w' := by
  have hmf : ∀ (fn : Fn) (first cap : Array Value) (w : World), (Instr.makeFunc fn first cap).run Tryz.prog w = .ok (.func fn first cap) w := fun _ _ _ _ => rfl
  obtain ⟨w0, hw0⟩ : ∃ w0 : World, w0 = ((w.alloc (.cells #[.int .i64 0, .int .i64 0] 84 (0, 0))).alloc (.cells #[.string s0, .bool false] 116 (0, 0))) := ⟨_, rfl⟩
  have HT0 : Hid (TXc (w.heap.size + 1) s0 false w0) := Lib.hid (by rw [hw0]; exact heap_new _ _ _ (by simp))
  have HR0 : Hid (w0.heap[w.heap.size]? = some (.cells #[.int .i64 0, .int .i64 0] 84 (0, 0))) := Lib.hid (by rw [hw0]; exact heap_old (heap_new _ _ _ rfl))
  have HB0 : Hid (Below w.heap.size w w0) := Lib.hid (by rw [hw0]; exact ((Below.refl _ _).alloc (Nat.le_refl _) _).alloc (by simp) _)
  have hz0 : w.heap.size + 1 < w0.heap.size := HT0.out.lt
  go_enter Tryz.func50, Tryz.ntmps50
  go_wp2_with fail
  refine scope_once 0 rfl ?_
  go_wp2_with fail
  rw [← hw0]
  clear hw0
  refine (H0.out _ _ HT0.out).mono ?_; rintro e w1 ⟨rfl, ht, hk⟩
  have HT1 := Lib.hid ht
  have HR1 : Hid (w1.heap[w.heap.size]? = some (.cells #[.int .i64 0, .int .i64 0] 84 (0, 0))) := Lib.hid ((hk.2 w.heap.size (by omega) (by omega)).trans HR0.out)
  have HB1 : Hid (Below w.heap.size w w1) := Lib.hid (HB0.out.trans (hk.1.mono (by omega)))
  have hz1 : w.heap.size + 1 < w1.heap.size := ht.lt
  clear ht hk hz0
  go_wp2_with fail
  refine (H1.out _ _ HT1.out).mono ?_; rintro e w2 ⟨rfl, ht, hk⟩
  have HT2 := Lib.hid ht
  have HR2 : Hid (w2.heap[w.heap.size]? = some (.cells #[.int .i64 0, .int .i64 0] 84 (0, 0))) := Lib.hid ((hk.2 w.heap.size (by omega) (by omega)).trans HR1.out)
  have HB2 : Hid (Below w.heap.size w w2) := Lib.hid (HB1.out.trans (hk.1.mono (by omega)))
  have hz2 : w.heap.size + 1 < w2.heap.size := ht.lt
  clear ht hk hz1
  go_wp2_with fail
  refine (H2.out _ _ HT2.out).mono ?_; rintro e w3 ⟨rfl, ht, hk⟩
  have HT3 := Lib.hid ht
  have HR3 : Hid (w3.heap[w.heap.size]? = some (.cells #[.int .i64 0, .int .i64 0] 84 (0, 0))) := Lib.hid ((hk.2 w.heap.size (by omega) (by omega)).trans HR2.out)
  have HB3 : Hid (Below w.heap.size w w3) := Lib.hid (HB2.out.trans (hk.1.mono (by omega)))
  have hz3 : w.heap.size + 1 < w3.heap.size := ht.lt
  clear ht hk hz2
  go_wp2_with fail
  refine (H3.out _ _ HT3.out).mono ?_; rintro e w4 ⟨rfl, ht, hk⟩
  have HT4 := Lib.hid ht
  have HR4 : Hid (w4.heap[w.heap.size]? = some (.cells #[.int .i64 0, .int .i64 0] 84 (0, 0))) := Lib.hid ((hk.2 w.heap.size (by omega) (by omega)).trans HR3.out)
  have HB4 : Hid (Below w.heap.size w w4) := Lib.hid (HB3.out.trans (hk.1.mono (by omega)))
  have hz4 : w.heap.size + 1 < w4.heap.size := ht.lt
  clear ht hk hz3
  go_wp2_with fail
  refine (H4.out _ _ HT4.out).mono ?_; rintro e w5 ⟨rfl, ht, hk⟩
  have HT5 := Lib.hid ht
  have HR5 : Hid (w5.heap[w.heap.size]? = some (.cells #[.int .i64 0, .int .i64 0] 84 (0, 0))) := Lib.hid ((hk.2 w.heap.size (by omega) (by omega)).trans HR4.out)
  have HB5 : Hid (Below w.heap.size w w5) := Lib.hid (HB4.out.trans (hk.1.mono (by omega)))
  have hz5 : w.heap.size + 1 < w5.heap.size := ht.lt
  clear ht hk hz4
  go_wp2_with fail
  refine (H5.out _ _ HT5.out).mono ?_; rintro e w6 ⟨rfl, ht, hk⟩
  have HT6 := Lib.hid ht
  have HR6 : Hid (w6.heap[w.heap.size]? = some (.cells #[.int .i64 0, .int .i64 0] 84 (0, 0))) := Lib.hid ((hk.2 w.heap.size (by omega) (by omega)).trans HR5.out)
  have HB6 : Hid (Below w.heap.size w w6) := Lib.hid (HB5.out.trans (hk.1.mono (by omega)))
  have hz6 : w.heap.size + 1 < w6.heap.size := ht.lt
  clear ht hk hz5
  go_wp2_with fail
  refine (H6.out _ _ HT6.out).mono ?_; rintro e w7 ⟨rfl, ht, hk⟩
  have HT7 := Lib.hid ht
  have HR7 : Hid (w7.heap[w.heap.size]? = some (.cells #[.int .i64 0, .int .i64 0] 84 (0, 0))) := Lib.hid ((hk.2 w.heap.size (by omega) (by omega)).trans HR6.out)
  have HB7 : Hid (Below w.heap.size w w7) := Lib.hid (HB6.out.trans (hk.1.mono (by omega)))
  have hz7 : w.heap.size + 1 < w7.heap.size := ht.lt
  clear ht hk hz6
  go_wp2_with fail
  refine (H7.out _ _ HT7.out).mono ?_; rintro e w8 ⟨rfl, ht, hk⟩
  have HT8 := Lib.hid ht
  have HR8 : Hid (w8.heap[w.heap.size]? = some (.cells #[.int .i64 0, .int .i64 0] 84 (0, 0))) := Lib.hid ((hk.2 w.heap.size (by omega) (by omega)).trans HR7.out)
  have HB8 : Hid (Below w.heap.size w w8) := Lib.hid (HB7.out.trans (hk.1.mono (by omega)))
  have hz8 : w.heap.size + 1 < w8.heap.size := ht.lt
  clear ht hk hz7
  go_wp2_with fail
  refine (H8.out _ _ HT8.out).mono ?_; rintro e w9 ⟨rfl, ht, hk⟩
  have HT9 := Lib.hid ht
  have HR9 : Hid (w9.heap[w.heap.size]? = some (.cells #[.int .i64 0, .int .i64 0] 84 (0, 0))) := Lib.hid ((hk.2 w.heap.size (by omega) (by omega)).trans HR8.out)
  have HB9 : Hid (Below w.heap.size w w9) := Lib.hid (HB8.out.trans (hk.1.mono (by omega)))
  have hz9 : w.heap.size + 1 < w9.heap.size := ht.lt
  clear ht hk hz8
  go_wp2_with fail
  refine (H9.out _ _ HT9.out).mono ?_; rintro e w10 ⟨rfl, ht, hk⟩
  have HT10 := Lib.hid ht
  have HR10 : Hid (w10.heap[w.heap.size]? = some (.cells #[.int .i64 0, .int .i64 0] 84 (0, 0))) := Lib.hid ((hk.2 w.heap.size (by omega) (by omega)).trans HR9.out)
  have HB10 : Hid (Below w.heap.size w w10) := Lib.hid (HB9.out.trans (hk.1.mono (by omega)))
  have hz10 : w.heap.size + 1 < w10.heap.size := ht.lt
  clear ht hk hz9
  go_wp2_with fail
  refine (H10.out _ _ HT10.out).mono ?_; rintro e w11 ⟨rfl, ht, hk⟩
  have HT11 := Lib.hid ht
  have HR11 : Hid (w11.heap[w.heap.size]? = some (.cells #[.int .i64 0, .int .i64 0] 84 (0, 0))) := Lib.hid ((hk.2 w.heap.size (by omega) (by omega)).trans HR10.out)
  have HB11 : Hid (Below w.heap.size w w11) := Lib.hid (HB10.out.trans (hk.1.mono (by omega)))
  have hz11 : w.heap.size + 1 < w11.heap.size := ht.lt
  clear ht hk hz10
  go_wp2_with fail
  refine (H11.out _ _ HT11.out).mono ?_; rintro e w12 ⟨rfl, ht, hk⟩
  have HT12 := Lib.hid ht
  have HR12 : Hid (w12.heap[w.heap.size]? = some (.cells #[.int .i64 0, .int .i64 0] 84 (0, 0))) := Lib.hid ((hk.2 w.heap.size (by omega) (by omega)).trans HR11.out)
  have HB12 : Hid (Below w.heap.size w w12) := Lib.hid (HB11.out.trans (hk.1.mono (by omega)))
  have hz12 : w.heap.size + 1 < w12.heap.size := ht.lt
  clear ht hk hz11
  have e0 : w12.cell? ⟨w.heap.size, 1, none⟩ = some (.int .i64 0) := (Lib.cell_of_heap HR12.out 1).trans rfl
  have e1 : w12.frozen? ⟨w.heap.size, 1, none⟩ = false := Lib.frozen_of_heap HR12.out 1
  have HTv : Hid (TXc (w.heap.size + 1) s12 b12 (w12.setCell ⟨w.heap.size, 1, none⟩ (.int .i64 na))) := Lib.hid (by show _ = _; rw [Below.heap_setCell _ _ _ _ (show w.heap.size + 1 ≠ w.heap.size by omega)]; exact HT12.out)
  have HRv : Hid ((w12.setCell ⟨w.heap.size, 1, none⟩ (.int .i64 na)).heap[w.heap.size]? = some (.cells #[.int .i64 0, .int .i64 na] 84 (0, 0))) := Lib.hid (on_pset HR12.out _ rfl)
  have HBv : Hid (Below w.heap.size w (w12.setCell ⟨w.heap.size, 1, none⟩ (.int .i64 na))) := Lib.hid (HB12.out.setCell (p := ⟨w.heap.size, 1, none⟩) (Nat.le_refl w.heap.size) (.int .i64 na))
  have hzv : w.heap.size + 1 < (w12.setCell ⟨w.heap.size, 1, none⟩ (.int .i64 na)).heap.size := HTv.out.lt
  go_wp2_with fail
  refine (H12.out _ _ HTv.out).mono ?_; rintro e w13 ⟨rfl, ht, hk⟩
  have HT13 := Lib.hid ht
  have HR13 : Hid (w13.heap[w.heap.size]? = some (.cells #[.int .i64 0, .int .i64 na] 84 (0, 0))) := Lib.hid ((hk.2 w.heap.size (by omega) (by omega)).trans HRv.out)
  have HB13 : Hid (Below w.heap.size w w13) := Lib.hid (HBv.out.trans (hk.1.mono (by omega)))
  have hz13 : w.heap.size + 1 < w13.heap.size := ht.lt
  clear ht hk hz12 hzv e0 e1
  go_wp2_with fail
  refine (H13.out _ _ HT13.out).mono ?_; rintro e w14 ⟨rfl, ht, hk⟩
  have HT14 := Lib.hid ht
  have HR14 : Hid (w14.heap[w.heap.size]? = some (.cells #[.int .i64 0, .int .i64 na] 84 (0, 0))) := Lib.hid ((hk.2 w.heap.size (by omega) (by omega)).trans HR13.out)
  have HB14 : Hid (Below w.heap.size w w14) := Lib.hid (HB13.out.trans (hk.1.mono (by omega)))
  have hz14 : w.heap.size + 1 < w14.heap.size := ht.lt
  clear ht hk hz13
  go_wp2_with fail
  refine (H14.out _ _ HT14.out).mono ?_; rintro e w15 ⟨rfl, ht, hk⟩
  have HT15 := Lib.hid ht
  have HR15 : Hid (w15.heap[w.heap.size]? = some (.cells #[.int .i64 0, .int .i64 na] 84 (0, 0))) := Lib.hid ((hk.2 w.heap.size (by omega) (by omega)).trans HR14.out)
  have HB15 : Hid (Below w.heap.size w w15) := Lib.hid (HB14.out.trans (hk.1.mono (by omega)))
  have hz15 : w.heap.size + 1 < w15.heap.size := ht.lt
  clear ht hk hz14
  go_wp2_with fail
  refine (H15.out _ _ HT15.out).mono ?_; rintro e w16 ⟨rfl, ht, hk⟩
  have HT16 := Lib.hid ht
  have HR16 : Hid (w16.heap[w.heap.size]? = some (.cells #[.int .i64 0, .int .i64 na] 84 (0, 0))) := Lib.hid ((hk.2 w.heap.size (by omega) (by omega)).trans HR15.out)
  have HB16 : Hid (Below w.heap.size w w16) := Lib.hid (HB15.out.trans (hk.1.mono (by omega)))
  have hz16 : w.heap.size + 1 < w16.heap.size := ht.lt
  clear ht hk hz15
  have c0 := HT16.out.c0
  have c1 := HT16.out.c1
  have r0 : w16.cell? ⟨w.heap.size, 0, none⟩ = some (.int .i64 0) := (Lib.cell_of_heap HR16.out 0).trans rfl
  have r1 : w16.cell? ⟨w.heap.size, 1, none⟩ = some (.int .i64 na) := (Lib.cell_of_heap HR16.out 1).trans rfl
  have g0 : w16.frozen? ⟨w.heap.size, 0, none⟩ = false := Lib.frozen_of_heap HR16.out 0
  have g1 : w16.frozen? ⟨w.heap.size, 1, none⟩ = false := Lib.frozen_of_heap HR16.out 1
  cases bE with
  | true =>
    have HG := Lib.hid (hno (by simp))
    clear hno
    go_wp2_with fail
    go_step3
    go_wp2_with fail
    refine goto_jump ?_
    go_wp2_with fail
    rw [Exit.noGoto_ret]
    refine bodyPost_ret (v := .tuple #[.agg #[.int .i64 0, .int .i64 0], .int .i64 120]) (by simp [results, Tryz.results50, go_sem, r0, r1, g0, g1]; try rfl) rfl ?_
    exact ⟨by rw [HG.out], (HB16.out.setCell (p := ⟨w.heap.size, 0, none⟩) (Nat.le_refl w.heap.size) _).setCell (p := ⟨w.heap.size, 1, none⟩) (Nat.le_refl w.heap.size) _⟩
  | false =>
    by_cases hsE : sE.toList = []
    · obtain rfl := hnil hsE
      cases u1 with
      | true =>
        have HG := Lib.hid (hno (by simp))
        clear hno hsE
        go_wp2_with fail
        refine (HS.out _).mono ?_; rintro e x1 ⟨rfl, rfl⟩
        go_wp2_with fail
        refine (HD.out _).mono ?_; rintro e x1 ⟨rfl, rfl⟩
        go_wp2_with fail
        go_step3
        go_wp2_with fail
        refine goto_jump ?_
        go_wp2_with fail
        rw [Exit.noGoto_ret]
        refine bodyPost_ret (v := .tuple #[.agg #[.int .i64 0, .int .i64 0], .int .i64 120]) (by simp [results, Tryz.results50, go_sem, r0, r1, g0, g1]; try rfl) rfl ?_
        exact ⟨by rw [HG.out], (HB16.out.setCell (p := ⟨w.heap.size, 0, none⟩) (Nat.le_refl w.heap.size) _).setCell (p := ⟨w.heap.size, 1, none⟩) (Nat.le_refl w.heap.size) _⟩
      | false =>
        cases u2 with
        | true =>
          have HG := Lib.hid (hno (by simp))
          clear hno hsE
          go_wp2_with fail
          refine (HS.out _).mono ?_; rintro e x1 ⟨rfl, rfl⟩
          go_wp2_with fail
          refine (HD.out _).mono ?_; rintro e x1 ⟨rfl, rfl⟩
          go_wp2_with fail
          go_step3
          go_wp2_with fail
          refine goto_jump ?_
          go_wp2_with fail
          rw [Exit.noGoto_ret]
          refine bodyPost_ret (v := .tuple #[.agg #[.int .i64 0, .int .i64 0], .int .i64 120]) (by simp [results, Tryz.results50, go_sem, r0, r1, g0, g1]; try rfl) rfl ?_
          exact ⟨by rw [HG.out], (HB16.out.setCell (p := ⟨w.heap.size, 0, none⟩) (Nat.le_refl w.heap.size) _).setCell (p := ⟨w.heap.size, 1, none⟩) (Nat.le_refl w.heap.size) _⟩
        | false =>
          cases u3 with
          | true =>
            have HG := Lib.hid (hno (by simp))
            clear hno hsE
            go_wp2_with fail
            refine (HS.out _).mono ?_; rintro e x1 ⟨rfl, rfl⟩
            go_wp2_with fail
            refine (HD.out _).mono ?_; rintro e x1 ⟨rfl, rfl⟩
            go_wp2_with fail
            go_step3
            go_wp2_with fail
            refine goto_jump ?_
            go_wp2_with fail
            rw [Exit.noGoto_ret]
            refine bodyPost_ret (v := .tuple #[.agg #[.int .i64 0, .int .i64 0], .int .i64 120]) (by simp [results, Tryz.results50, go_sem, r0, r1, g0, g1]; try rfl) rfl ?_
            exact ⟨by rw [HG.out], (HB16.out.setCell (p := ⟨w.heap.size, 0, none⟩) (Nat.le_refl w.heap.size) _).setCell (p := ⟨w.heap.size, 1, none⟩) (Nat.le_refl w.heap.size) _⟩
          | false =>
            cases u4 with
            | false =>
              have HG := Lib.hid (hno (by simp))
              clear hno hsE
              go_wp2_with fail
              refine (HS.out _).mono ?_; rintro e x1 ⟨rfl, rfl⟩
              go_wp2_with fail
              refine (HD.out _).mono ?_; rintro e x1 ⟨rfl, rfl⟩
              go_wp2_with fail
              refine (HS.out _).mono ?_; rintro e x1 ⟨rfl, rfl⟩
              go_wp2_with fail
              have HRs : Hid ((w16.setCell ⟨w.heap.size, 0, none⟩ (.int .i64 ((sd + 60) * 86400 + (3600 * h + 60 * mi + se - 60 * -(60 * oh + om))))).heap[w.heap.size]? = some (.cells #[.int .i64 ((sd + 60) * 86400 + (3600 * h + 60 * mi + se - 60 * -(60 * oh + om))), .int .i64 na] 84 (0, 0))) := Lib.hid (on_pset HR16.out _ rfl)
              have HBs : Hid (Below w.heap.size w (w16.setCell ⟨w.heap.size, 0, none⟩ (.int .i64 ((sd + 60) * 86400 + (3600 * h + 60 * mi + se - 60 * -(60 * oh + om)))))) := Lib.hid (HB16.out.setCell (p := ⟨w.heap.size, 0, none⟩) (Nat.le_refl w.heap.size) _)
              (with_reducible refine (HCK.out _).mono ?_); rintro e x2 ⟨rfl, hb⟩
              have HR2 : Hid (x2.heap[w.heap.size]? = some (.cells #[.int .i64 ((sd + 60) * 86400 + (3600 * h + 60 * mi + se - 60 * -(60 * oh + om))), .int .i64 na] 84 (0, 0))) := Lib.hid ((hb.block w.heap.size (heap_lt HRs.out)).trans HRs.out)
              have HB2 : Hid (Below w.heap.size w x2) := Lib.hid (HBs.out.trans (hb.mono HBs.out.size))
              clear hb r0 r1 g0 g1 c0 c1
              have r0 : x2.cell? ⟨w.heap.size, 0, none⟩ = some (.int .i64 ((sd + 60) * 86400 + (3600 * h + 60 * mi + se - 60 * -(60 * oh + om)))) := (Lib.cell_of_heap HR2.out 0).trans rfl
              have r1 : x2.cell? ⟨w.heap.size, 1, none⟩ = some (.int .i64 na) := (Lib.cell_of_heap HR2.out 1).trans rfl
              have g0 : x2.frozen? ⟨w.heap.size, 0, none⟩ = false := Lib.frozen_of_heap HR2.out 0
              have g1 : x2.frozen? ⟨w.heap.size, 1, none⟩ = false := Lib.frozen_of_heap HR2.out 1
              go_wp2_with fail
              go_step3
              go_wp2_with fail
              rw [jump_ret]
              refine bodyPost_ret (v := .tuple #[.agg #[.int .i64 0, .int .i64 0], .int .i64 120]) (by simp [results, Tryz.results50, go_sem, r0, r1, g0, g1]; try rfl) rfl ?_
              exact ⟨by rw [HG.out], (HB2.out.setCell (p := ⟨w.heap.size, 0, none⟩) (Nat.le_refl w.heap.size) _).setCell (p := ⟨w.heap.size, 1, none⟩) (Nat.le_refl w.heap.size) _⟩
            | true =>
              have HG := Lib.hid (hyes hsE rfl rfl rfl rfl rfl)
              clear hno hsE
              go_wp2_with fail
              refine (HS.out _).mono ?_; rintro e x1 ⟨rfl, rfl⟩
              go_wp2_with fail
              refine (HD.out _).mono ?_; rintro e x1 ⟨rfl, rfl⟩
              go_wp2_with fail
              refine (HS.out _).mono ?_; rintro e x1 ⟨rfl, rfl⟩
              go_wp2_with fail
              have HRs : Hid ((w16.setCell ⟨w.heap.size, 0, none⟩ (.int .i64 ((sd + 60) * 86400 + (3600 * h + 60 * mi + se - 60 * -(60 * oh + om))))).heap[w.heap.size]? = some (.cells #[.int .i64 ((sd + 60) * 86400 + (3600 * h + 60 * mi + se - 60 * -(60 * oh + om))), .int .i64 na] 84 (0, 0))) := Lib.hid (on_pset HR16.out _ rfl)
              have HBs : Hid (Below w.heap.size w (w16.setCell ⟨w.heap.size, 0, none⟩ (.int .i64 ((sd + 60) * 86400 + (3600 * h + 60 * mi + se - 60 * -(60 * oh + om)))))) := Lib.hid (HB16.out.setCell (p := ⟨w.heap.size, 0, none⟩) (Nat.le_refl w.heap.size) _)
              (with_reducible refine (HCK.out _).mono ?_); rintro e x2 ⟨rfl, hb⟩
              have HR2 : Hid (x2.heap[w.heap.size]? = some (.cells #[.int .i64 ((sd + 60) * 86400 + (3600 * h + 60 * mi + se - 60 * -(60 * oh + om))), .int .i64 na] 84 (0, 0))) := Lib.hid ((hb.block w.heap.size (heap_lt HRs.out)).trans HRs.out)
              have HB2 : Hid (Below w.heap.size w x2) := Lib.hid (HBs.out.trans (hb.mono HBs.out.size))
              clear hb r0 r1 g0 g1 c0 c1
              have r0 : x2.cell? ⟨w.heap.size, 0, none⟩ = some (.int .i64 ((sd + 60) * 86400 + (3600 * h + 60 * mi + se - 60 * -(60 * oh + om)))) := (Lib.cell_of_heap HR2.out 0).trans rfl
              have r1 : x2.cell? ⟨w.heap.size, 1, none⟩ = some (.int .i64 na) := (Lib.cell_of_heap HR2.out 1).trans rfl
              have g0 : x2.frozen? ⟨w.heap.size, 0, none⟩ = false := Lib.frozen_of_heap HR2.out 0
              have g1 : x2.frozen? ⟨w.heap.size, 1, none⟩ = false := Lib.frozen_of_heap HR2.out 1
              go_wp2_with fail
              rw [jump_ret]
              refine bodyPost_ret (v := .tuple #[.agg #[.int .i64 ((sd + 60) * 86400 + (3600 * h + 60 * mi + se - 60 * -(60 * oh + om))), .int .i64 na], .int .i64 0]) (by simp [results, Tryz.results50, go_sem, r0, r1, g0, g1]; try rfl) rfl ?_
              exact ⟨by rw [HG.out], (HB2.out.setCell (p := ⟨w.heap.size, 0, none⟩) (Nat.le_refl w.heap.size) _).setCell (p := ⟨w.heap.size, 1, none⟩) (Nat.le_refl w.heap.size) _⟩
    · have hs2 : sE.toList.isEmpty = false := by simpa using hsE
      have HG := Lib.hid (hno (by simp [hsE]))
      clear hno
      go_wp2_with fail
      go_step3
      go_wp2_with fail
      refine goto_jump ?_
      go_wp2_with fail
      rw [Exit.noGoto_ret]
      refine bodyPost_ret (v := .tuple #[.agg #[.int .i64 0, .int .i64 0], .int .i64 120]) (by simp [results, Tryz.results50, go_sem, r0, r1, g0, g1]; try rfl) rfl ?_
      exact ⟨by rw [HG.out], (HB16.out.setCell (p := ⟨w.heap.size, 0, none⟩) (Nat.le_refl w.heap.size) _).setCell (p := ⟨w.heap.size, 1, none⟩) (Nat.le_refl w.heap.size) _⟩
end Go.Proofs.YtjhgiojmlkeccaaGreatDoor
namespace Go.Proofs.YtjhgiojmlkeccaaGreatDoor
open Go.RowKit Go.Shelf
def d0 (l : List UInt8) : Int × List UInt8 × Bool := dNum 4 0 9999 l false
theorem d0_eq (l : List UInt8) : d0 l = dNum 4 0 9999 l false := rfl
def d1 (l : List UInt8) : Nat × List UInt8 × Bool := dMark [45] (d0 l).2.1 (d0 l).2.2
theorem d1_eq (l : List UInt8) : d1 l = dMark [45] (d0 l).2.1 (d0 l).2.2 := rfl
def d2 (l : List UInt8) : Int × List UInt8 × Bool := dNum 2 1 12 (d1 l).2.1 (d1 l).2.2
theorem d2_eq (l : List UInt8) : d2 l = dNum 2 1 12 (d1 l).2.1 (d1 l).2.2 := rfl
def d3 (l : List UInt8) : Nat × List UInt8 × Bool := dMark [45] (d2 l).2.1 (d2 l).2.2
theorem d3_eq (l : List UInt8) : d3 l = dMark [45] (d2 l).2.1 (d2 l).2.2 := rfl
def d4 (l : List UInt8) : Int × List UInt8 × Bool := dNum 2 1 31 (d3 l).2.1 (d3 l).2.2
theorem d4_eq (l : List UInt8) : d4 l = dNum 2 1 31 (d3 l).2.1 (d3 l).2.2 := rfl
def d5 (l : List UInt8) : Nat × List UInt8 × Bool := dMark [84, 116] (d4 l).2.1 (d4 l).2.2
theorem d5_eq (l : List UInt8) : d5 l = dMark [84, 116] (d4 l).2.1 (d4 l).2.2 := rfl
def d6 (l : List UInt8) : Int × List UInt8 × Bool := dNum 2 0 23 (d5 l).2.1 (d5 l).2.2
theorem d6_eq (l : List UInt8) : d6 l = dNum 2 0 23 (d5 l).2.1 (d5 l).2.2 := rfl
def d7 (l : List UInt8) : Nat × List UInt8 × Bool := dMark [58] (d6 l).2.1 (d6 l).2.2
theorem d7_eq (l : List UInt8) : d7 l = dMark [58] (d6 l).2.1 (d6 l).2.2 := rfl
def d8 (l : List UInt8) : Int × List UInt8 × Bool := dNum 2 0 59 (d7 l).2.1 (d7 l).2.2
theorem d8_eq (l : List UInt8) : d8 l = dNum 2 0 59 (d7 l).2.1 (d7 l).2.2 := rfl
def d9 (l : List UInt8) : Nat × List UInt8 × Bool := dMark [58] (d8 l).2.1 (d8 l).2.2
theorem d9_eq (l : List UInt8) : d9 l = dMark [58] (d8 l).2.1 (d8 l).2.2 := rfl
def d10 (l : List UInt8) : Int × List UInt8 × Bool := dNum 2 0 59 (d9 l).2.1 (d9 l).2.2
theorem d10_eq (l : List UInt8) : d10 l = dNum 2 0 59 (d9 l).2.1 (d9 l).2.2 := rfl
def d11 (l : List UInt8) : Int × List UInt8 × Bool := dFrac (d10 l).2.1 (d10 l).2.2
theorem d11_eq (l : List UInt8) : d11 l = dFrac (d10 l).2.1 (d10 l).2.2 := rfl
def d12 (l : List UInt8) : Nat × List UInt8 × Bool := dMark [90, 122, 43, 45] (d11 l).2.1 (d11 l).2.2
theorem d12_eq (l : List UInt8) : d12 l = dMark [90, 122, 43, 45] (d11 l).2.1 (d11 l).2.2 := rfl
def d13 (l : List UInt8) : Int × List UInt8 × Bool := dNum 2 0 23 (d12 l).2.1 (d12 l).2.2
theorem d13_eq (l : List UInt8) : d13 l = dNum 2 0 23 (d12 l).2.1 (d12 l).2.2 := rfl
def d14 (l : List UInt8) : Nat × List UInt8 × Bool := dMark [58] (d13 l).2.1 (d13 l).2.2
theorem d14_eq (l : List UInt8) : d14 l = dMark [58] (d13 l).2.1 (d13 l).2.2 := rfl
def d15 (l : List UInt8) : Int × List UInt8 × Bool := dNum 2 0 59 (d14 l).2.1 (d14 l).2.2
theorem d15_eq (l : List UInt8) : d15 l = dNum 2 0 59 (d14 l).2.1 (d14 l).2.2 := rfl
/-- The offset's minutes; what is left; whether that is bad. -/
def dOff (l : List UInt8) : Int × List UInt8 × Bool :=
  if (d12 l).1 = 43 then (60 * (d13 l).1 + (d15 l).1, (d15 l).2) else if (d12 l).1 = 45 then (-(60 * (d13 l).1 + (d15 l).1), (d15 l).2) else (0, (d12 l).2)
def dSd (l : List UInt8) : Int := sinceD (d0 l).1 (d2 l).1 (d4 l).1
def dSec (l : List UInt8) : Int := (dSd l + 60) * 86400 + (3600 * (d6 l).1 + 60 * (d8 l).1 + (d10 l).1 - 60 * (dOff l).1)
def dOk (l : List UInt8) : Bool := !(dOff l).2.2 && (dOff l).2.1.isEmpty && dateY (dSd l) == (d0 l).1 && dateM (dSd l) == (d2 l).1 && dateDD (dSd l) == (d4 l).1 && dchk (dSec l) (d11 l).1 == 0
/-- The seconds, the nanoseconds, the error. -/
def dParse (l : List UInt8) : Int × Int × Int := if dOk l then (dSec l, (d11 l).1, 0) else (0, 0, 120)
theorem len_mk (l : List UInt8) : (⟨l.toArray⟩ : ByteArray).size = l.length := by show l.toArray.size = _; simp
theorem toL_mk (l : List UInt8) : (⟨l.toArray⟩ : ByteArray).toList = l := by rw [ByteArray.toList_eq]
theorem ix_mem (l : List UInt8) (c : UInt8) : l.contains c = decide (0 ≤ Lib.indexByte l c) := by
  have hg := Lib.indexByte_ge l c
  by_cases h : 0 ≤ Lib.indexByte l c
  · obtain ⟨o, ho⟩ : ∃ o : Nat, Lib.indexByte l c = o := ⟨(Lib.indexByte l c).toNat, by omega⟩
    have h1 := (Lib.indexByte_some ho).1
    rw [decide_eq_true h]
    simpa using List.mem_of_getElem? h1
  · have h1 := Lib.indexByte_none (show Lib.indexByte l c = -1 by omega)
    rw [decide_eq_false h]
    refine Bool.eq_false_iff.2 fun hc => ?_
    have hm : c ∈ l := by simpa using hc
    obtain ⟨k, hk⟩ := List.getElem?_of_mem hm
    exact h1 k hk
theorem dNum_len (many : Nat) (lo hi : Int) (l : List UInt8) (b : Bool) : (dNum many lo hi l b).2.1.length ≤ l.length := by
  unfold dNum; split
  · exact Nat.le_refl _
  · dsimp only; rw [List.length_drop]; omega
theorem dMark_len (m l : List UInt8) (b : Bool) : (dMark m l b).2.1.length ≤ l.length := by
  unfold dMark; split
  · exact Nat.le_refl _
  · split
    · simp
    · exact Nat.le_refl _
theorem dFrac_len (l : List UInt8) (b : Bool) : (dFrac l b).2.1.length ≤ l.length := by
  unfold dFrac; split
  · exact Nat.le_refl _
  · split
    · dsimp only
      split
      · simp
      · refine Nat.le_trans (dNum_len _ _ _ _ _) (by simp)
    · exact Nat.le_refl _
theorem dnum_any (many : Nat) (hm : many ≤ 9) (lo hi : Int) (l : List UInt8) (hl : l.length ≤ 1000000) (b : Bool) : DNum many lo hi (dNum many lo hi l b).1 ⟨l.toArray⟩ b ⟨(dNum many lo hi l b).2.1.toArray⟩ (dNum many lo hi l b).2.2 := by
  intro tb W hh
  unfold dNum
  by_cases h : l.length < many
  · rw [if_pos h]
    exact dnum_short many lo hi _ (by rw [len_mk]; exact h) hm tb b W hh
  · rw [if_neg h]
    exact dnum_go many lo hi ⟨l.toArray⟩ ⟨(l.take many).toArray⟩ ⟨(l.drop many).toArray⟩ (by rw [len_mk]; omega) hm (by rw [len_mk]; omega) (by rw [ext_mk]; simp) (by rw [ext_mk, len_mk, List.take_of_length_le (by rw [List.length_drop]; omega)]) (valU (l.take many)) rfl _ _ _ tb b W hh rfl rfl rfl
theorem dmark_any (m l : List UInt8) (hl : l.length ≤ 1000000) (b : Bool) : DMark ⟨m.toArray⟩ ((dMark m l b).1 : Nat) ⟨l.toArray⟩ b ⟨(dMark m l b).2.1.toArray⟩ (dMark m l b).2.2 := by
  intro tb W hh
  match l, hl, hh with
  | [], _, hh => exact dmark_nil _ tb b W hh
  | c :: r, hl, hh =>
    have h0 : 0 < (⟨(c :: r).toArray⟩ : ByteArray).size := by rw [len_mk]; simp
    have hne : ¬ (⟨(c :: r).toArray⟩ : ByteArray).toList = [] := by rw [toL_mk]; simp
    have hix : ∀ W, Calls Tryz.prog 117 #[.string ⟨m.toArray⟩, .int .u8 (((⟨(c :: r).toArray⟩ : ByteArray)[0]'h0).toNat : Int)] W fun e w' => e = .returned (.int .i64 (Lib.indexByte m c)) ∧ W = w' := fun W => by
      have := Tryz.strings_IndexByte ⟨m.toArray⟩ (((⟨(c :: r).toArray⟩ : ByteArray)[0]'h0).toNat : Int) W
      have e1 : (((⟨(c :: r).toArray⟩ : ByteArray)[0]'h0).toNat : Int).toNat.toUInt8 = c := by simp; rfl
      rw [e1] at this
      exact this.mono fun e w' ⟨a, b⟩ => ⟨a, b.symm⟩
    have hm := ix_mem m c
    unfold dMark
    dsimp only
    by_cases h : 0 ≤ Lib.indexByte m c
    · rw [if_pos (by rw [hm]; simpa using h)]
      exact dmark_yes ⟨m.toArray⟩ ⟨(c :: r).toArray⟩ ⟨r.toArray⟩ h0 hne (by rw [toL_mk]; rfl) (by rw [len_mk]; exact hl) (by rw [ext_mk, len_mk]; simp) (Lib.indexByte m c) h tb b W hh (Lib.hid hix)
    · rw [if_neg (by rw [hm]; simpa using h)]
      exact dmark_no ⟨m.toArray⟩ ⟨(c :: r).toArray⟩ h0 hne (by rw [toL_mk]; rfl) (by rw [len_mk]; exact hl) (Lib.indexByte m c) (by omega) tb b W hh (Lib.hid hix)
theorem dig_set (c : UInt8) : ([48, 49, 50, 51, 52, 53, 54, 55, 56, 57] : List UInt8).contains c = isDig c := by
  have : ∀ c : Fin 256, ([48, 49, 50, 51, 52, 53, 54, 55, 56, 57] : List UInt8).contains (UInt8.ofNat c.1) = isDig (UInt8.ofNat c.1) := by decide +kernel
  have h := this ⟨c.toNat, UInt8.toNat_lt _⟩
  simpa using h
theorem dropWhile_len (p : UInt8 → Bool) : ∀ r : List UInt8, (r.takeWhile p).length + (r.dropWhile p).length = r.length := fun r => by
  rw [← List.length_append, List.takeWhile_append_dropWhile]
theorem dfrac_any (l : List UInt8) (hl : l.length ≤ 1000000) (b : Bool) : DFrac (dFrac l b).1 ⟨l.toArray⟩ b ⟨(dFrac l b).2.1.toArray⟩ (dFrac l b).2.2 := by
  intro tb W hh
  have HC := fun W => (Tryz.strings_CutPrefix ⟨l.toArray⟩ ⟨#[46]⟩ W).mono fun e w' ⟨a, b⟩ => (⟨a, b.symm⟩ : _ ∧ W = w')
  have e46 : (⟨#[46]⟩ : ByteArray).data.toList = [46] := rfl
  rw [e46] at HC
  dsimp only at HC
  match l, hl, hh, HC with
  | [], _, hh, HC => exact dfrac_no ⟨#[]⟩ _ tb b W hh (Lib.hid HC)
  | c :: r, hl, hh, HC =>
    unfold dFrac
    dsimp only
    by_cases hc : c = 46
    · subst hc
      rw [if_pos rfl]
      have HC2 : Hid (∀ W, Calls Tryz.prog 84 #[.string ⟨(46 :: r).toArray⟩, .string ⟨#[46]⟩] W fun e w' => e = .returned (.tuple #[.string ⟨r.toArray⟩, .bool true]) ∧ W = w') := Lib.hid fun W => by
        have := HC W
        simpa [Lib.trimPrefix, Lib.hasPrefix] using this
      have HT : Hid (∀ W, Calls Tryz.prog 89 #[.string ⟨r.toArray⟩, .string ⟨#[48, 49, 50, 51, 52, 53, 54, 55, 56, 57]⟩] W fun e w' => e = .returned (.string ⟨(r.dropWhile isDig).toArray⟩) ∧ Below W.heap.size W w') := Lib.hid fun W => by
        have := Any.strings_TrimLeft_laid Tryz.lays161 (by kernel_rfl) ⟨r.toArray⟩ ⟨#[48, 49, 50, 51, 52, 53, 54, 55, 56, 57]⟩ W (by decide) (ascii_of_all (by decide))
        have e : Lib.trimLeftS r [48, 49, 50, 51, 52, 53, 54, 55, 56, 57] = r.dropWhile isDig := by
          unfold Lib.trimLeftS
          congr 1
          funext c
          exact dig_set c
        rw [← e]
        exact this
      have hlen := dropWhile_len isDig r
      have hr : r.length ≤ 1000000 := by simp at hl; omega
      by_cases hk : (r.takeWhile isDig).length < 1 ∨ 9 < (r.takeWhile isDig).length
      · rw [if_pos hk]
        exact dfrac_bad ⟨(46 :: r).toArray⟩ ⟨r.toArray⟩ ⟨(r.dropWhile isDig).toArray⟩ (by rw [len_mk]; exact hr) (by rw [len_mk, len_mk]; omega) (r.takeWhile isDig).length (by rw [len_mk, len_mk]; omega) hk tb b W hh HC2 HT
      · rw [if_neg hk]
        have hbd := dNum_bd (r.takeWhile isDig).length 0 999999999 r b (by omega)
        exact dfrac_go ⟨(46 :: r).toArray⟩ ⟨r.toArray⟩ ⟨(r.dropWhile isDig).toArray⟩ _ (by rw [len_mk]; exact hr) (by rw [len_mk, len_mk]; omega) (r.takeWhile isDig).length (by rw [len_mk, len_mk]; omega) (by omega) (by omega) _ hbd.1 hbd.2 tb b _ W hh HC2 HT (Lib.hid fun W' h' => dnum_any _ (by omega) 0 999999999 r hr b tb W' h')
    · rw [if_neg hc]
      have HC2 : Hid (∀ W, Calls Tryz.prog 84 #[.string ⟨(c :: r).toArray⟩, .string ⟨#[46]⟩] W fun e w' => e = .returned (.tuple #[.string ⟨(c :: r).toArray⟩, .bool false]) ∧ W = w') := Lib.hid fun W => by
        have hp : ([46] : List UInt8).isPrefixOf (c :: r) = false := by simp [List.isPrefixOf, Ne.symm hc]
        have := HC W
        simpa [Lib.trimPrefix, Lib.hasPrefix, hp] using this
      exact dfrac_no ⟨(c :: r).toArray⟩ _ tb b W hh HC2
theorem d0_len (l : List UInt8) : (d0 l).2.1.length ≤ l.length := by rw [d0_eq]; exact dNum_len _ _ _ _ _
theorem d1_len (l : List UInt8) : (d1 l).2.1.length ≤ l.length := by rw [d1_eq]; exact Nat.le_trans (dMark_len _ _ _) (d0_len l)
theorem d2_len (l : List UInt8) : (d2 l).2.1.length ≤ l.length := by rw [d2_eq]; exact Nat.le_trans (dNum_len _ _ _ _ _) (d1_len l)
theorem d3_len (l : List UInt8) : (d3 l).2.1.length ≤ l.length := by rw [d3_eq]; exact Nat.le_trans (dMark_len _ _ _) (d2_len l)
theorem d4_len (l : List UInt8) : (d4 l).2.1.length ≤ l.length := by rw [d4_eq]; exact Nat.le_trans (dNum_len _ _ _ _ _) (d3_len l)
theorem d5_len (l : List UInt8) : (d5 l).2.1.length ≤ l.length := by rw [d5_eq]; exact Nat.le_trans (dMark_len _ _ _) (d4_len l)
theorem d6_len (l : List UInt8) : (d6 l).2.1.length ≤ l.length := by rw [d6_eq]; exact Nat.le_trans (dNum_len _ _ _ _ _) (d5_len l)
theorem d7_len (l : List UInt8) : (d7 l).2.1.length ≤ l.length := by rw [d7_eq]; exact Nat.le_trans (dMark_len _ _ _) (d6_len l)
theorem d8_len (l : List UInt8) : (d8 l).2.1.length ≤ l.length := by rw [d8_eq]; exact Nat.le_trans (dNum_len _ _ _ _ _) (d7_len l)
theorem d9_len (l : List UInt8) : (d9 l).2.1.length ≤ l.length := by rw [d9_eq]; exact Nat.le_trans (dMark_len _ _ _) (d8_len l)
theorem d10_len (l : List UInt8) : (d10 l).2.1.length ≤ l.length := by rw [d10_eq]; exact Nat.le_trans (dNum_len _ _ _ _ _) (d9_len l)
theorem d11_len (l : List UInt8) : (d11 l).2.1.length ≤ l.length := by rw [d11_eq]; exact Nat.le_trans (dFrac_len _ _) (d10_len l)
theorem d12_len (l : List UInt8) : (d12 l).2.1.length ≤ l.length := by rw [d12_eq]; exact Nat.le_trans (dMark_len _ _ _) (d11_len l)
theorem d13_len (l : List UInt8) : (d13 l).2.1.length ≤ l.length := by rw [d13_eq]; exact Nat.le_trans (dNum_len _ _ _ _ _) (d12_len l)
theorem d14_len (l : List UInt8) : (d14 l).2.1.length ≤ l.length := by rw [d14_eq]; exact Nat.le_trans (dMark_len _ _ _) (d13_len l)
theorem d0_bd (l : List UInt8) : 0 ≤ (d0 l).1 ∧ (d0 l).1 ≤ 9999 := by rw [d0_eq]; exact dNum_bd 4 0 9999 _ _ (by omega)
theorem d2_bd (l : List UInt8) : 1 ≤ (d2 l).1 ∧ (d2 l).1 ≤ 12 := by rw [d2_eq]; exact dNum_bd 2 1 12 _ _ (by omega)
theorem d4_bd (l : List UInt8) : 1 ≤ (d4 l).1 ∧ (d4 l).1 ≤ 31 := by rw [d4_eq]; exact dNum_bd 2 1 31 _ _ (by omega)
theorem d6_bd (l : List UInt8) : 0 ≤ (d6 l).1 ∧ (d6 l).1 ≤ 23 := by rw [d6_eq]; exact dNum_bd 2 0 23 _ _ (by omega)
theorem d8_bd (l : List UInt8) : 0 ≤ (d8 l).1 ∧ (d8 l).1 ≤ 59 := by rw [d8_eq]; exact dNum_bd 2 0 59 _ _ (by omega)
theorem d10_bd (l : List UInt8) : 0 ≤ (d10 l).1 ∧ (d10 l).1 ≤ 59 := by rw [d10_eq]; exact dNum_bd 2 0 59 _ _ (by omega)
theorem d13_bd (l : List UInt8) : 0 ≤ (d13 l).1 ∧ (d13 l).1 ≤ 23 := by rw [d13_eq]; exact dNum_bd 2 0 23 _ _ (by omega)
theorem d15_bd (l : List UInt8) : 0 ≤ (d15 l).1 ∧ (d15 l).1 ≤ 59 := by rw [d15_eq]; exact dNum_bd 2 0 59 _ _ (by omega)
theorem d0_c (l : List UInt8) (hl : l.length ≤ 1000000) : DNum 4 0 9999 (d0 l).1 ⟨l.toArray⟩ false ⟨(d0 l).2.1.toArray⟩ (d0 l).2.2 := by rw [d0_eq]; exact dnum_any 4 (by omega) 0 9999 _ hl _
theorem d1_c (l : List UInt8) (hl : l.length ≤ 1000000) : DMark ⟨#[45]⟩ ((d1 l).1 : Nat) ⟨(d0 l).2.1.toArray⟩ (d0 l).2.2 ⟨(d1 l).2.1.toArray⟩ (d1 l).2.2 := by rw [d1_eq]; exact dmark_any [45] _ (Nat.le_trans (d0_len l) hl) _
theorem d2_c (l : List UInt8) (hl : l.length ≤ 1000000) : DNum 2 1 12 (d2 l).1 ⟨(d1 l).2.1.toArray⟩ (d1 l).2.2 ⟨(d2 l).2.1.toArray⟩ (d2 l).2.2 := by rw [d2_eq]; exact dnum_any 2 (by omega) 1 12 _ (Nat.le_trans (d1_len l) hl) _
theorem d3_c (l : List UInt8) (hl : l.length ≤ 1000000) : DMark ⟨#[45]⟩ ((d3 l).1 : Nat) ⟨(d2 l).2.1.toArray⟩ (d2 l).2.2 ⟨(d3 l).2.1.toArray⟩ (d3 l).2.2 := by rw [d3_eq]; exact dmark_any [45] _ (Nat.le_trans (d2_len l) hl) _
theorem d4_c (l : List UInt8) (hl : l.length ≤ 1000000) : DNum 2 1 31 (d4 l).1 ⟨(d3 l).2.1.toArray⟩ (d3 l).2.2 ⟨(d4 l).2.1.toArray⟩ (d4 l).2.2 := by rw [d4_eq]; exact dnum_any 2 (by omega) 1 31 _ (Nat.le_trans (d3_len l) hl) _
theorem d5_c (l : List UInt8) (hl : l.length ≤ 1000000) : DMark ⟨#[84, 116]⟩ ((d5 l).1 : Nat) ⟨(d4 l).2.1.toArray⟩ (d4 l).2.2 ⟨(d5 l).2.1.toArray⟩ (d5 l).2.2 := by rw [d5_eq]; exact dmark_any [84, 116] _ (Nat.le_trans (d4_len l) hl) _
theorem d6_c (l : List UInt8) (hl : l.length ≤ 1000000) : DNum 2 0 23 (d6 l).1 ⟨(d5 l).2.1.toArray⟩ (d5 l).2.2 ⟨(d6 l).2.1.toArray⟩ (d6 l).2.2 := by rw [d6_eq]; exact dnum_any 2 (by omega) 0 23 _ (Nat.le_trans (d5_len l) hl) _
theorem d7_c (l : List UInt8) (hl : l.length ≤ 1000000) : DMark ⟨#[58]⟩ ((d7 l).1 : Nat) ⟨(d6 l).2.1.toArray⟩ (d6 l).2.2 ⟨(d7 l).2.1.toArray⟩ (d7 l).2.2 := by rw [d7_eq]; exact dmark_any [58] _ (Nat.le_trans (d6_len l) hl) _
theorem d8_c (l : List UInt8) (hl : l.length ≤ 1000000) : DNum 2 0 59 (d8 l).1 ⟨(d7 l).2.1.toArray⟩ (d7 l).2.2 ⟨(d8 l).2.1.toArray⟩ (d8 l).2.2 := by rw [d8_eq]; exact dnum_any 2 (by omega) 0 59 _ (Nat.le_trans (d7_len l) hl) _
theorem d9_c (l : List UInt8) (hl : l.length ≤ 1000000) : DMark ⟨#[58]⟩ ((d9 l).1 : Nat) ⟨(d8 l).2.1.toArray⟩ (d8 l).2.2 ⟨(d9 l).2.1.toArray⟩ (d9 l).2.2 := by rw [d9_eq]; exact dmark_any [58] _ (Nat.le_trans (d8_len l) hl) _
theorem d10_c (l : List UInt8) (hl : l.length ≤ 1000000) : DNum 2 0 59 (d10 l).1 ⟨(d9 l).2.1.toArray⟩ (d9 l).2.2 ⟨(d10 l).2.1.toArray⟩ (d10 l).2.2 := by rw [d10_eq]; exact dnum_any 2 (by omega) 0 59 _ (Nat.le_trans (d9_len l) hl) _
theorem d11_c (l : List UInt8) (hl : l.length ≤ 1000000) : DFrac (d11 l).1 ⟨(d10 l).2.1.toArray⟩ (d10 l).2.2 ⟨(d11 l).2.1.toArray⟩ (d11 l).2.2 := by rw [d11_eq]; exact dfrac_any _ (Nat.le_trans (d10_len l) hl) _
theorem d12_c (l : List UInt8) (hl : l.length ≤ 1000000) : DMark ⟨#[90, 122, 43, 45]⟩ ((d12 l).1 : Nat) ⟨(d11 l).2.1.toArray⟩ (d11 l).2.2 ⟨(d12 l).2.1.toArray⟩ (d12 l).2.2 := by rw [d12_eq]; exact dmark_any [90, 122, 43, 45] _ (Nat.le_trans (d11_len l) hl) _
theorem d13_c (l : List UInt8) (hl : l.length ≤ 1000000) : DNum 2 0 23 (d13 l).1 ⟨(d12 l).2.1.toArray⟩ (d12 l).2.2 ⟨(d13 l).2.1.toArray⟩ (d13 l).2.2 := by rw [d13_eq]; exact dnum_any 2 (by omega) 0 23 _ (Nat.le_trans (d12_len l) hl) _
theorem d14_c (l : List UInt8) (hl : l.length ≤ 1000000) : DMark ⟨#[58]⟩ ((d14 l).1 : Nat) ⟨(d13 l).2.1.toArray⟩ (d13 l).2.2 ⟨(d14 l).2.1.toArray⟩ (d14 l).2.2 := by rw [d14_eq]; exact dmark_any [58] _ (Nat.le_trans (d13_len l) hl) _
theorem d15_c (l : List UInt8) (hl : l.length ≤ 1000000) : DNum 2 0 59 (d15 l).1 ⟨(d14 l).2.1.toArray⟩ (d14 l).2.2 ⟨(d15 l).2.1.toArray⟩ (d15 l).2.2 := by rw [d15_eq]; exact dnum_any 2 (by omega) 0 59 _ (Nat.le_trans (d14_len l) hl) _
theorem dparse_any (l : List UInt8) (hl : l.length ≤ 1000000) (w : World) :
    Calls Tryz.prog 50 #[.string ⟨l.toArray⟩] w fun e w' => e = .returned (.tuple #[.agg #[.int .i64 (dParse l).1, .int .i64 (dParse l).2.1], .int .i64 (dParse l).2.2]) ∧ Below w.heap.size w w' := by
  have HSD := since_bd (d0 l).1 (d2 l).1 (d4 l).1 (d0_bd l).1 (d0_bd l).2 (d4_bd l).1 (d4_bd l).2
  have HS : ∀ W, Calls Tryz.prog 75 #[.int .i64 (d0 l).1, .int .i64 (d2 l).1, .int .i64 (d4 l).1] W fun e w' => e = .returned (.int .i64 (dSd l)) ∧ W = w' := fun W => since_any _ _ _ (d0_bd l).1 (d0_bd l).2 (d2_bd l).1 (d2_bd l).2 (d4_bd l).1 (d4_bd l).2 W
  have HD : ∀ W, Calls Tryz.prog 74 #[.int .i64 (dSd l)] W fun e w' => e = .returned (.tuple #[.int .i64 (dateY (dSd l)), .int .i64 (dateM (dSd l)), .int .i64 (dateDD (dSd l))]) ∧ W = w' := fun W => date_any _ HSD.1 HSD.2 W
  have HCK : ∀ W, Calls Tryz.prog 76 #[.agg #[.int .i64 (dSec l), .int .i64 (d11 l).1]] W fun e w' => e = .returned (.int .i64 (dchk (dSec l) (d11 l).1)) ∧ Below W.heap.size W w' := fun W => dcheck_any _ _ W
  have hok : dOk l = (!(dOff l).2.2 && (dOff l).2.1.isEmpty && dateY (dSd l) == (d0 l).1 && dateM (dSd l) == (d2 l).1 && dateDD (dSd l) == (d4 l).1 && dchk (dSec l) (d11 l).1 == 0) := rfl
  have hnil : ∀ L : List UInt8, (⟨L.toArray⟩ : ByteArray).toList = [] → (⟨L.toArray⟩ : ByteArray) = ⟨#[]⟩ := fun L h => by rw [toL_mk] at h; rw [h]
  have hno : ∀ u1 u2 u3 u4 : Bool, (dateY (dSd l) != (d0 l).1) = u1 → (dateM (dSd l) != (d2 l).1) = u2 → (dateDD (dSd l) != (d4 l).1) = u3 → (dchk (dSec l) (d11 l).1 == 0) = u4 → ((dOff l).2.2 = true ∨ ¬ (⟨(dOff l).2.1.toArray⟩ : ByteArray).toList = [] ∨ u1 = true ∨ u2 = true ∨ u3 = true ∨ u4 = false) → (.tuple #[.agg #[.int .i64 (dParse l).1, .int .i64 (dParse l).2.1], .int .i64 (dParse l).2.2] : Value) = .tuple #[.agg #[.int .i64 0, .int .i64 0], .int .i64 120] := by
    intro u1 u2 u3 u4 h1 h2 h3 h4 h
    have : dOk l = false := by
      rw [hok]
      rw [toL_mk] at h
      subst h1 h2 h3 h4
      rcases h with h | h | h | h | h | h
      · rw [h]; simp
      · have : (dOff l).2.1.isEmpty = false := by simpa using h
        rw [this]; simp
      · have : (dateY (dSd l) == (d0 l).1) = false := by simpa using h
        rw [this]; simp
      · have : (dateM (dSd l) == (d2 l).1) = false := by simpa using h
        rw [this]; simp
      · have : (dateDD (dSd l) == (d4 l).1) = false := by simpa using h
        rw [this]; simp
      · rw [h]; simp
    unfold dParse
    rw [this, if_neg Bool.false_ne_true]
  have hyes : ∀ u1 u2 u3 u4 : Bool, (dateY (dSd l) != (d0 l).1) = u1 → (dateM (dSd l) != (d2 l).1) = u2 → (dateDD (dSd l) != (d4 l).1) = u3 → (dchk (dSec l) (d11 l).1 == 0) = u4 → (⟨(dOff l).2.1.toArray⟩ : ByteArray).toList = [] → (dOff l).2.2 = false → u1 = false → u2 = false → u3 = false → u4 = true → (.tuple #[.agg #[.int .i64 (dParse l).1, .int .i64 (dParse l).2.1], .int .i64 (dParse l).2.2] : Value) = .tuple #[.agg #[.int .i64 (dSec l), .int .i64 (d11 l).1], .int .i64 0] := by
    intro u1 u2 u3 u4 h1 h2 h3 h4 he hb g1 g2 g3 g4
    have : dOk l = true := by
      rw [hok]
      rw [toL_mk] at he
      subst h1 h2 h3 h4
      have e1 : (dateY (dSd l) == (d0 l).1) = true := by simpa using g1
      have e2 : (dateM (dSd l) == (d2 l).1) = true := by simpa using g2
      have e3 : (dateDD (dSd l) == (d4 l).1) = true := by simpa using g3
      rw [hb, he, e1, e2, e3, g4]; rfl
    unfold dParse
    rw [this, if_pos rfl]
  by_cases h43 : (d12 l).1 = 43
  · have ho : dOff l = (60 * (d13 l).1 + (d15 l).1, (d15 l).2) := by unfold dOff; rw [if_pos h43]
    have e : dSec l = (dSd l + 60) * 86400 + (3600 * (d6 l).1 + 60 * (d8 l).1 + (d10 l).1 - 60 * (60 * (d13 l).1 + (d15 l).1)) := by unfold dSec; rw [ho]
    have e1 : (dOff l).2.1 = (d15 l).2.1 := by rw [ho]
    have e2 : (dOff l).2.2 = (d15 l).2.2 := by rw [ho]
    rw [e] at HCK
    refine dparse_p ⟨l.toArray⟩ _ _ _ _ _ _ _ _ _ _ _ _ _ _ _ _ _ _ _ _ _ _ _ _ _ _ _ _ _ _ _ _ _ _ _ _ _ _ _ _ _ _ _ _ _ _ _ (d0_bd l).1 (d0_bd l).2 (d2_bd l).1 (d2_bd l).2 (d4_bd l).1 (d4_bd l).2 (d6_bd l).1 (d6_bd l).2 (d8_bd l).1 (d8_bd l).2 (d10_bd l).1 (d10_bd l).2 (dSd l) HSD.1 HSD.2 _ _ _ _ _ _ _ _ _ _ _ rfl rfl rfl rfl w (Lib.hid (d0_c l hl)) (Lib.hid (d1_c l hl)) (Lib.hid (d2_c l hl)) (Lib.hid (d3_c l hl)) (Lib.hid (d4_c l hl)) (Lib.hid (d5_c l hl)) (Lib.hid (d6_c l hl)) (Lib.hid (d7_c l hl)) (Lib.hid (d8_c l hl)) (Lib.hid (d9_c l hl)) (Lib.hid (d10_c l hl)) (Lib.hid (d11_c l hl)) (Lib.hid (by have := d12_c l hl; rw [h43] at this; exact this)) (Lib.hid (d13_c l hl)) (Lib.hid (d14_c l hl)) (Lib.hid (d15_c l hl)) (Lib.hid HS) (Lib.hid HD) (Lib.hid HCK) (d13_bd l).1 (d13_bd l).2 (d15_bd l).1 (d15_bd l).2 (hnil _) ?_ ?_
    · intro h
      rw [← e] at h
      rw [← e1, ← e2] at h
      exact hno _ _ _ _ rfl rfl rfl rfl h
    · intro h0 h1 h2 h3 h4 h5
      rw [← e] at h5 ⊢
      rw [← e2] at h1
      rw [← e1] at h0
      exact hyes _ _ _ _ rfl rfl rfl rfl h0 h1 h2 h3 h4 h5
  by_cases h45 : (d12 l).1 = 45
  · have ho : dOff l = (-(60 * (d13 l).1 + (d15 l).1), (d15 l).2) := by unfold dOff; rw [if_neg h43, if_pos h45]
    have e : dSec l = (dSd l + 60) * 86400 + (3600 * (d6 l).1 + 60 * (d8 l).1 + (d10 l).1 - 60 * -(60 * (d13 l).1 + (d15 l).1)) := by unfold dSec; rw [ho]
    have e1 : (dOff l).2.1 = (d15 l).2.1 := by rw [ho]
    have e2 : (dOff l).2.2 = (d15 l).2.2 := by rw [ho]
    rw [e] at HCK
    refine dparse_m ⟨l.toArray⟩ _ _ _ _ _ _ _ _ _ _ _ _ _ _ _ _ _ _ _ _ _ _ _ _ _ _ _ _ _ _ _ _ _ _ _ _ _ _ _ _ _ _ _ _ _ _ _ (d0_bd l).1 (d0_bd l).2 (d2_bd l).1 (d2_bd l).2 (d4_bd l).1 (d4_bd l).2 (d6_bd l).1 (d6_bd l).2 (d8_bd l).1 (d8_bd l).2 (d10_bd l).1 (d10_bd l).2 (dSd l) HSD.1 HSD.2 _ _ _ _ _ _ _ _ _ _ _ rfl rfl rfl rfl w (Lib.hid (d0_c l hl)) (Lib.hid (d1_c l hl)) (Lib.hid (d2_c l hl)) (Lib.hid (d3_c l hl)) (Lib.hid (d4_c l hl)) (Lib.hid (d5_c l hl)) (Lib.hid (d6_c l hl)) (Lib.hid (d7_c l hl)) (Lib.hid (d8_c l hl)) (Lib.hid (d9_c l hl)) (Lib.hid (d10_c l hl)) (Lib.hid (d11_c l hl)) (Lib.hid (by have := d12_c l hl; rw [h45] at this; exact this)) (Lib.hid (d13_c l hl)) (Lib.hid (d14_c l hl)) (Lib.hid (d15_c l hl)) (Lib.hid HS) (Lib.hid HD) (Lib.hid HCK) (d13_bd l).1 (d13_bd l).2 (d15_bd l).1 (d15_bd l).2 (hnil _) ?_ ?_
    · intro h
      rw [← e] at h
      rw [← e1, ← e2] at h
      exact hno _ _ _ _ rfl rfl rfl rfl h
    · intro h0 h1 h2 h3 h4 h5
      rw [← e] at h5 ⊢
      rw [← e2] at h1
      rw [← e1] at h0
      exact hyes _ _ _ _ rfl rfl rfl rfl h0 h1 h2 h3 h4 h5
  · have ho : dOff l = (0, (d12 l).2) := by unfold dOff; rw [if_neg h43, if_neg h45]
    have e : dSec l = (dSd l + 60) * 86400 + (3600 * (d6 l).1 + 60 * (d8 l).1 + (d10 l).1) := by unfold dSec; rw [ho]; omega
    have e1 : (dOff l).2.1 = (d12 l).2.1 := by rw [ho]
    have e2 : (dOff l).2.2 = (d12 l).2.2 := by rw [ho]
    rw [e] at HCK
    refine dparse_0 ⟨l.toArray⟩ _ _ _ _ _ _ _ _ _ _ _ _ _ _ _ _ _ _ _ _ _ _ _ _ _ _ _ _ _ _ _ _ _ _ _ _ _ _ _ (d0_bd l).1 (d0_bd l).2 (d2_bd l).1 (d2_bd l).2 (d4_bd l).1 (d4_bd l).2 (d6_bd l).1 (d6_bd l).2 (d8_bd l).1 (d8_bd l).2 (d10_bd l).1 (d10_bd l).2 (dSd l) HSD.1 HSD.2 _ _ _ _ _ _ _ _ _ _ _ rfl rfl rfl rfl w (Lib.hid (d0_c l hl)) (Lib.hid (d1_c l hl)) (Lib.hid (d2_c l hl)) (Lib.hid (d3_c l hl)) (Lib.hid (d4_c l hl)) (Lib.hid (d5_c l hl)) (Lib.hid (d6_c l hl)) (Lib.hid (d7_c l hl)) (Lib.hid (d8_c l hl)) (Lib.hid (d9_c l hl)) (Lib.hid (d10_c l hl)) (Lib.hid (d11_c l hl)) (Lib.hid (d12_c l hl)) (Lib.hid HS) (Lib.hid HD) (Lib.hid HCK) (by simp; omega) (by simp; omega) (hnil _) ?_ ?_
    · intro h
      rw [← e] at h
      rw [← e1, ← e2] at h
      exact hno _ _ _ _ rfl rfl rfl rfl h
    · intro h0 h1 h2 h3 h4 h5
      rw [← e] at h5 ⊢
      rw [← e2] at h1
      rw [← e1] at h0
      exact hyes _ _ _ _ rfl rfl rfl rfl h0 h1 h2 h3 h4 h5
end Go.Proofs.YtjhgiojmlkeccaaGreatDoor
namespace Go.Proofs.YtjhgiojmlkeccaaGreatDoor
open Go.RowKit Go.Shelf
/-- So many digits of a number. -/
def digD (n : Int) (many : Nat) : List UInt8 := List.replicate (many - (Lib.itoa n).length) 48 ++ Lib.itoa n
set_option maxRecDepth 100000 in
set_option maxHeartbeats 4000000 in
theorem ddigits_any (n : Int) (hr : R n) (many : Nat) (hm : many ≤ 20) (w : World) (ht : EnvT w) :
    Calls Tryz.prog 78 #[.int .i64 n, .int .i64 (many : Nat)] w fun e w' => e = .returned (.string ⟨(digD n many).toArray⟩) ∧ Below w.heap.size w w' := by
  have HT := Lib.hid ht
  have hl := len_itoa hr
  obtain ⟨iB, hi⟩ : ∃ b : ByteArray, (⟨(Lib.itoa n).toArray⟩ : ByteArray) = b := ⟨_, rfl⟩
  have his : iB.size = (Lib.itoa n).length := by rw [← hi, len_mk]
  obtain ⟨k, hk⟩ : ∃ k, many - (Lib.itoa n).length = k := ⟨_, rfl⟩
  have hmax : max 0 ((many : Int) - (iB.size : Int)) = (k : Int) := by rw [his]; omega
  have hk20 : k ≤ 20 := by omega
  have hsz : iB.size ≤ 21 := by omega
  obtain ⟨zB, hz⟩ : ∃ b : ByteArray, (⟨(List.replicate k 48).toArray⟩ : ByteArray) = b := ⟨_, rfl⟩
  have hzs : zB.size ≤ 20 := by rw [← hz, len_mk, List.length_replicate]; exact hk20
  have HR : Hid (∀ W, Calls Tryz.prog 91 #[.string ⟨#[48]⟩, .int .i64 (k : Nat)] W fun e w' => e = .returned (.string zB) ∧ W = w') := Lib.hid fun W => by have := repeat0_any k (by omega) W; rw [hz] at this; exact this
  have HI : Hid (∀ W, EnvT W → Calls Tryz.prog 120 #[.int .i64 n] W fun e w' => e = .returned (.string iB) ∧ Below W.heap.size W w') := Lib.hid fun W hW => by
    have := Tryz.strconv_Itoa n hr.1 hr.2 W hW
    rw [hi] at this
    exact this.mono fun e w' ⟨a, k, os, b⟩ => ⟨a, by rw [b]; exact below_grow _ _ _⟩
  have HE : Hid ((⟨(digD n many).toArray⟩ : ByteArray) = zB ++ iB) := Lib.hid (by unfold digD; rw [hk, ← hz, ← hi, cat])
  clear ht hl hi his hk hz
  go_enter Tryz.func78, Tryz.ntmps78
  go_wp2_with fail
  refine (HI.out _ HT.out).mono ?_; rintro e w1 ⟨rfl, hb⟩
  have HB := Lib.hid hb
  clear hb
  go_wp2_with fail
  refine (HR.out _).mono ?_; rintro e w2 ⟨rfl, rfl⟩
  go_wp2_with fail
  go_ret
  exact ⟨by rw [HE.out]; rfl, HB.out⟩
set_option maxRecDepth 100000 in
set_option maxHeartbeats 4000000 in
theorem dtext_no (s n : Int) (w : World) (HD : Hid (DoesU w 77 #[.agg #[.int .i64 s, .int .i64 n]] (.tuple #[.int .i64 0, .int .i64 0, .int .i64 0, .int .i64 120]))) :
    Calls Tryz.prog 51 #[.agg #[.int .i64 s, .int .i64 n]] w fun e w' => e = .returned (.tuple #[.string ⟨#[]⟩, .int .i64 120]) ∧ Below w.heap.size w w' := by
  go_enter Tryz.func51, Tryz.ntmps51
  go_wp2_with fail
  refine (HD.out _ (by first | exact Below.refl _ _ | (go_grown; done))).mono ?_; rintro e w1 ⟨rfl, hb⟩
  have hh0 : w1.heap[w.heap.size]? = some (.cells #[.int .i64 s, .int .i64 n] 84 (0, 0)) := (hb.block _ (by first | omega | (simp; done) | (simp; omega))).trans (heap_new _ _ _ (by first | rfl | simp))
  have hbw1 : Below w.heap.size w w1 := (show Below w.heap.size w _ by first | exact Below.refl _ _ | (go_grown; done)).trans (hb.mono (by first | omega | (simp; done) | (simp; omega)))
  clear hb
  have HH0_1 := Lib.hid hh0
  have lt0 := heap_lt hh0
  have c0_0 : w1.cell? ⟨w.heap.size, 0, none⟩ = some (.int .i64 s) := by rw [Lib.cell_of_heap hh0]; rfl
  have c0_1 : w1.cell? ⟨w.heap.size, 1, none⟩ = some (.int .i64 n) := by rw [Lib.cell_of_heap hh0]; rfl
  clear hh0
  have sz1 := hbw1.size
  have HW1 := Lib.hid hbw1
  go_wp2_with fail
  go_ret2
  exact ⟨rfl, by first | exact HW1.out | (go_grown; done)⟩
set_option maxRecDepth 100000 in
set_option maxHeartbeats 4000000 in
theorem dtext_0 (s n y m d t q1 q2 q3 q4 : Int) (a1 a2 a3 a4 a5 a6 : ByteArray) (hs0 : 0 ≤ s) (hs1 : s ≤ 315569519999) (ht : s % 86400 = t) (ht0 : 0 ≤ t) (ht1 : t ≤ 86399) (h1 : t / 3600 = q1) (h2 : t / 60 = q2) (h20 : 0 ≤ q2) (h21 : q2 ≤ 1439) (h3 : q2 % 60 = q3) (h4 : t % 60 = q4) (hn : decide (0 < n) = false)
    (l1 : a1.size ≤ 41) (l2 : a2.size ≤ 41) (l3 : a3.size ≤ 41) (l4 : a4.size ≤ 41) (l5 : a5.size ≤ 41) (l6 : a6.size ≤ 41) (w : World) (HD : Hid (DoesU w 77 #[.agg #[.int .i64 s, .int .i64 n]] (.tuple #[.int .i64 y, .int .i64 m, .int .i64 d, .int .i64 0])))
    (A1 : Hid (DoesU w 78 #[.int .i64 y, .int .i64 4] (.string a1))) (A2 : Hid (DoesU w 78 #[.int .i64 m, .int .i64 2] (.string a2))) (A3 : Hid (DoesU w 78 #[.int .i64 d, .int .i64 2] (.string a3))) (A4 : Hid (DoesU w 78 #[.int .i64 q1, .int .i64 2] (.string a4))) (A5 : Hid (DoesU w 78 #[.int .i64 q3, .int .i64 2] (.string a5))) (A6 : Hid (DoesU w 78 #[.int .i64 q4, .int .i64 2] (.string a6))) :
    Calls Tryz.prog 51 #[.agg #[.int .i64 s, .int .i64 n]] w fun e w' => e = .returned (.tuple #[.string (a1 ++ ⟨#[45]⟩ ++ a2 ++ ⟨#[45]⟩ ++ a3 ++ ⟨#[84]⟩ ++ a4 ++ ⟨#[58]⟩ ++ a5 ++ ⟨#[58]⟩ ++ a6 ++ ⟨#[90]⟩), .int .i64 0]) ∧ Below w.heap.size w w' := by
  go_enter Tryz.func51, Tryz.ntmps51
  go_wp2_with fail
  refine (HD.out _ (by first | exact Below.refl _ _ | (go_grown; done))).mono ?_; rintro e w1 ⟨rfl, hb⟩
  have hh0 : w1.heap[w.heap.size]? = some (.cells #[.int .i64 s, .int .i64 n] 84 (0, 0)) := (hb.block _ (by first | omega | (simp; done) | (simp; omega))).trans (heap_new _ _ _ (by first | rfl | simp))
  have hbw1 : Below w.heap.size w w1 := (show Below w.heap.size w _ by first | exact Below.refl _ _ | (go_grown; done)).trans (hb.mono (by first | omega | (simp; done) | (simp; omega)))
  clear hb
  have HH0_1 := Lib.hid hh0
  have lt0 := heap_lt hh0
  have c0_0 : w1.cell? ⟨w.heap.size, 0, none⟩ = some (.int .i64 s) := by rw [Lib.cell_of_heap hh0]; rfl
  have c0_1 : w1.cell? ⟨w.heap.size, 1, none⟩ = some (.int .i64 n) := by rw [Lib.cell_of_heap hh0]; rfl
  clear hh0
  have sz1 := hbw1.size
  have HW1 := Lib.hid hbw1
  go_wp2_with fail
  refine (A1.out _ (by first | exact HW1.out | exact HW1.out.trans ⟨rfl, rfl, rfl, Nat.le_refl _, fun _ _ => rfl⟩ | (go_grown; done))).mono ?_; rintro e w2 ⟨rfl, hb⟩
  have hv0 := HH0_1.out
  have hh0 : w2.heap[w.heap.size]? = some (.cells #[.int .i64 s, .int .i64 n] 84 (0, 0)) := (hb.block _ (heap_lt hv0)).trans hv0
  clear hv0
  have hbw2 : Below w.heap.size w w2 := (show Below w.heap.size w _ by first | exact HW1.out.trans ⟨rfl, rfl, rfl, Nat.le_refl _, fun _ _ => rfl⟩ | exact HW1.out | (go_grown; done)).trans (hb.mono (by first | omega | (simp; done) | (simp; omega)))
  clear hb lt0 c0_0 c0_1 hbw1
  have HH0_2 := Lib.hid hh0
  have lt0 := heap_lt hh0
  have c0_0 : w2.cell? ⟨w.heap.size, 0, none⟩ = some (.int .i64 s) := by rw [Lib.cell_of_heap hh0]; rfl
  have c0_1 : w2.cell? ⟨w.heap.size, 1, none⟩ = some (.int .i64 n) := by rw [Lib.cell_of_heap hh0]; rfl
  clear hh0
  have sz2 := hbw2.size
  have HW2 := Lib.hid hbw2
  go_wp2_with fail
  refine (A2.out _ (by first | exact HW2.out | exact HW2.out.trans ⟨rfl, rfl, rfl, Nat.le_refl _, fun _ _ => rfl⟩ | (go_grown; done))).mono ?_; rintro e w3 ⟨rfl, hb⟩
  have hv0 := HH0_2.out
  have hh0 : w3.heap[w.heap.size]? = some (.cells #[.int .i64 s, .int .i64 n] 84 (0, 0)) := (hb.block _ (heap_lt hv0)).trans hv0
  clear hv0
  have hbw3 : Below w.heap.size w w3 := (show Below w.heap.size w _ by first | exact HW2.out.trans ⟨rfl, rfl, rfl, Nat.le_refl _, fun _ _ => rfl⟩ | exact HW2.out | (go_grown; done)).trans (hb.mono (by first | omega | (simp; done) | (simp; omega)))
  clear hb lt0 c0_0 c0_1 hbw2
  have HH0_3 := Lib.hid hh0
  have lt0 := heap_lt hh0
  have c0_0 : w3.cell? ⟨w.heap.size, 0, none⟩ = some (.int .i64 s) := by rw [Lib.cell_of_heap hh0]; rfl
  have c0_1 : w3.cell? ⟨w.heap.size, 1, none⟩ = some (.int .i64 n) := by rw [Lib.cell_of_heap hh0]; rfl
  clear hh0
  have sz3 := hbw3.size
  have HW3 := Lib.hid hbw3
  go_wp2_with fail
  refine (A3.out _ (by first | exact HW3.out | exact HW3.out.trans ⟨rfl, rfl, rfl, Nat.le_refl _, fun _ _ => rfl⟩ | (go_grown; done))).mono ?_; rintro e w4 ⟨rfl, hb⟩
  have hv0 := HH0_3.out
  have hh0 : w4.heap[w.heap.size]? = some (.cells #[.int .i64 s, .int .i64 n] 84 (0, 0)) := (hb.block _ (heap_lt hv0)).trans hv0
  clear hv0
  have hbw4 : Below w.heap.size w w4 := (show Below w.heap.size w _ by first | exact HW3.out.trans ⟨rfl, rfl, rfl, Nat.le_refl _, fun _ _ => rfl⟩ | exact HW3.out | (go_grown; done)).trans (hb.mono (by first | omega | (simp; done) | (simp; omega)))
  clear hb lt0 c0_0 c0_1 hbw3
  have HH0_4 := Lib.hid hh0
  have lt0 := heap_lt hh0
  have c0_0 : w4.cell? ⟨w.heap.size, 0, none⟩ = some (.int .i64 s) := by rw [Lib.cell_of_heap hh0]; rfl
  have c0_1 : w4.cell? ⟨w.heap.size, 1, none⟩ = some (.int .i64 n) := by rw [Lib.cell_of_heap hh0]; rfl
  clear hh0
  have sz4 := hbw4.size
  have HW4 := Lib.hid hbw4
  go_wp2_with fail
  refine (A4.out _ (by first | exact HW4.out | exact HW4.out.trans ⟨rfl, rfl, rfl, Nat.le_refl _, fun _ _ => rfl⟩ | (go_grown; done))).mono ?_; rintro e w5 ⟨rfl, hb⟩
  have hv0 := HH0_4.out
  have hh0 : w5.heap[w.heap.size]? = some (.cells #[.int .i64 s, .int .i64 n] 84 (0, 0)) := (hb.block _ (heap_lt hv0)).trans hv0
  clear hv0
  have hbw5 : Below w.heap.size w w5 := (show Below w.heap.size w _ by first | exact HW4.out.trans ⟨rfl, rfl, rfl, Nat.le_refl _, fun _ _ => rfl⟩ | exact HW4.out | (go_grown; done)).trans (hb.mono (by first | omega | (simp; done) | (simp; omega)))
  clear hb lt0 c0_0 c0_1 hbw4
  have HH0_5 := Lib.hid hh0
  have lt0 := heap_lt hh0
  have c0_0 : w5.cell? ⟨w.heap.size, 0, none⟩ = some (.int .i64 s) := by rw [Lib.cell_of_heap hh0]; rfl
  have c0_1 : w5.cell? ⟨w.heap.size, 1, none⟩ = some (.int .i64 n) := by rw [Lib.cell_of_heap hh0]; rfl
  clear hh0
  have sz5 := hbw5.size
  have HW5 := Lib.hid hbw5
  go_wp2_with fail
  refine (A5.out _ (by first | exact HW5.out | exact HW5.out.trans ⟨rfl, rfl, rfl, Nat.le_refl _, fun _ _ => rfl⟩ | (go_grown; done))).mono ?_; rintro e w6 ⟨rfl, hb⟩
  have hv0 := HH0_5.out
  have hh0 : w6.heap[w.heap.size]? = some (.cells #[.int .i64 s, .int .i64 n] 84 (0, 0)) := (hb.block _ (heap_lt hv0)).trans hv0
  clear hv0
  have hbw6 : Below w.heap.size w w6 := (show Below w.heap.size w _ by first | exact HW5.out.trans ⟨rfl, rfl, rfl, Nat.le_refl _, fun _ _ => rfl⟩ | exact HW5.out | (go_grown; done)).trans (hb.mono (by first | omega | (simp; done) | (simp; omega)))
  clear hb lt0 c0_0 c0_1 hbw5
  have HH0_6 := Lib.hid hh0
  have lt0 := heap_lt hh0
  have c0_0 : w6.cell? ⟨w.heap.size, 0, none⟩ = some (.int .i64 s) := by rw [Lib.cell_of_heap hh0]; rfl
  have c0_1 : w6.cell? ⟨w.heap.size, 1, none⟩ = some (.int .i64 n) := by rw [Lib.cell_of_heap hh0]; rfl
  clear hh0
  have sz6 := hbw6.size
  have HW6 := Lib.hid hbw6
  go_wp2_with fail
  refine (A6.out _ (by first | exact HW6.out | exact HW6.out.trans ⟨rfl, rfl, rfl, Nat.le_refl _, fun _ _ => rfl⟩ | (go_grown; done))).mono ?_; rintro e w7 ⟨rfl, hb⟩
  have hv0 := HH0_6.out
  have hh0 : w7.heap[w.heap.size]? = some (.cells #[.int .i64 s, .int .i64 n] 84 (0, 0)) := (hb.block _ (heap_lt hv0)).trans hv0
  clear hv0
  have hbw7 : Below w.heap.size w w7 := (show Below w.heap.size w _ by first | exact HW6.out.trans ⟨rfl, rfl, rfl, Nat.le_refl _, fun _ _ => rfl⟩ | exact HW6.out | (go_grown; done)).trans (hb.mono (by first | omega | (simp; done) | (simp; omega)))
  clear hb lt0 c0_0 c0_1 hbw6
  have HH0_7 := Lib.hid hh0
  have lt0 := heap_lt hh0
  have c0_0 : w7.cell? ⟨w.heap.size, 0, none⟩ = some (.int .i64 s) := by rw [Lib.cell_of_heap hh0]; rfl
  have c0_1 : w7.cell? ⟨w.heap.size, 1, none⟩ = some (.int .i64 n) := by rw [Lib.cell_of_heap hh0]; rfl
  clear hh0
  have sz7 := hbw7.size
  have HW7 := Lib.hid hbw7
  go_wp2_with fail
  go_ret2
  exact ⟨rfl, by first | exact HW7.out | (go_grown; done)⟩
set_option maxRecDepth 100000 in
set_option maxHeartbeats 4000000 in
theorem dtext_n (s n y m d t q1 q2 q3 q4 : Int) (a1 a2 a3 a4 a5 a6 a7 a8 : ByteArray) (hs0 : 0 ≤ s) (hs1 : s ≤ 315569519999) (ht : s % 86400 = t) (ht0 : 0 ≤ t) (ht1 : t ≤ 86399) (h1 : t / 3600 = q1) (h2 : t / 60 = q2) (h20 : 0 ≤ q2) (h21 : q2 ≤ 1439) (h3 : q2 % 60 = q3) (h4 : t % 60 = q4) (hn : decide (0 < n) = true)
    (l1 : a1.size ≤ 41) (l2 : a2.size ≤ 41) (l3 : a3.size ≤ 41) (l4 : a4.size ≤ 41) (l5 : a5.size ≤ 41) (l6 : a6.size ≤ 41) (l8 : a8.size ≤ 41) (w : World) (HD : Hid (DoesU w 77 #[.agg #[.int .i64 s, .int .i64 n]] (.tuple #[.int .i64 y, .int .i64 m, .int .i64 d, .int .i64 0])))
    (A1 : Hid (DoesU w 78 #[.int .i64 y, .int .i64 4] (.string a1))) (A2 : Hid (DoesU w 78 #[.int .i64 m, .int .i64 2] (.string a2))) (A3 : Hid (DoesU w 78 #[.int .i64 d, .int .i64 2] (.string a3))) (A4 : Hid (DoesU w 78 #[.int .i64 q1, .int .i64 2] (.string a4))) (A5 : Hid (DoesU w 78 #[.int .i64 q3, .int .i64 2] (.string a5))) (A6 : Hid (DoesU w 78 #[.int .i64 q4, .int .i64 2] (.string a6))) (A7 : Hid (DoesU w 78 #[.int .i64 n, .int .i64 9] (.string a7))) (A8 : Hid (DoesU w 79 #[.string a7, .string ⟨#[48]⟩] (.string a8))) :
    Calls Tryz.prog 51 #[.agg #[.int .i64 s, .int .i64 n]] w fun e w' => e = .returned (.tuple #[.string (a1 ++ ⟨#[45]⟩ ++ a2 ++ ⟨#[45]⟩ ++ a3 ++ ⟨#[84]⟩ ++ a4 ++ ⟨#[58]⟩ ++ a5 ++ ⟨#[58]⟩ ++ a6 ++ (⟨#[46]⟩ ++ a8) ++ ⟨#[90]⟩), .int .i64 0]) ∧ Below w.heap.size w w' := by
  go_enter Tryz.func51, Tryz.ntmps51
  go_wp2_with fail
  refine (HD.out _ (by first | exact Below.refl _ _ | (go_grown; done))).mono ?_; rintro e w1 ⟨rfl, hb⟩
  have hh0 : w1.heap[w.heap.size]? = some (.cells #[.int .i64 s, .int .i64 n] 84 (0, 0)) := (hb.block _ (by first | omega | (simp; done) | (simp; omega))).trans (heap_new _ _ _ (by first | rfl | simp))
  have hbw1 : Below w.heap.size w w1 := (show Below w.heap.size w _ by first | exact Below.refl _ _ | (go_grown; done)).trans (hb.mono (by first | omega | (simp; done) | (simp; omega)))
  clear hb
  have HH0_1 := Lib.hid hh0
  have lt0 := heap_lt hh0
  have c0_0 : w1.cell? ⟨w.heap.size, 0, none⟩ = some (.int .i64 s) := by rw [Lib.cell_of_heap hh0]; rfl
  have c0_1 : w1.cell? ⟨w.heap.size, 1, none⟩ = some (.int .i64 n) := by rw [Lib.cell_of_heap hh0]; rfl
  clear hh0
  have sz1 := hbw1.size
  have HW1 := Lib.hid hbw1
  go_wp2_with fail
  refine (A1.out _ (by first | exact HW1.out | exact HW1.out.trans ⟨rfl, rfl, rfl, Nat.le_refl _, fun _ _ => rfl⟩ | (go_grown; done))).mono ?_; rintro e w2 ⟨rfl, hb⟩
  have hv0 := HH0_1.out
  have hh0 : w2.heap[w.heap.size]? = some (.cells #[.int .i64 s, .int .i64 n] 84 (0, 0)) := (hb.block _ (heap_lt hv0)).trans hv0
  clear hv0
  have hbw2 : Below w.heap.size w w2 := (show Below w.heap.size w _ by first | exact HW1.out.trans ⟨rfl, rfl, rfl, Nat.le_refl _, fun _ _ => rfl⟩ | exact HW1.out | (go_grown; done)).trans (hb.mono (by first | omega | (simp; done) | (simp; omega)))
  clear hb lt0 c0_0 c0_1 hbw1
  have HH0_2 := Lib.hid hh0
  have lt0 := heap_lt hh0
  have c0_0 : w2.cell? ⟨w.heap.size, 0, none⟩ = some (.int .i64 s) := by rw [Lib.cell_of_heap hh0]; rfl
  have c0_1 : w2.cell? ⟨w.heap.size, 1, none⟩ = some (.int .i64 n) := by rw [Lib.cell_of_heap hh0]; rfl
  clear hh0
  have sz2 := hbw2.size
  have HW2 := Lib.hid hbw2
  go_wp2_with fail
  refine (A2.out _ (by first | exact HW2.out | exact HW2.out.trans ⟨rfl, rfl, rfl, Nat.le_refl _, fun _ _ => rfl⟩ | (go_grown; done))).mono ?_; rintro e w3 ⟨rfl, hb⟩
  have hv0 := HH0_2.out
  have hh0 : w3.heap[w.heap.size]? = some (.cells #[.int .i64 s, .int .i64 n] 84 (0, 0)) := (hb.block _ (heap_lt hv0)).trans hv0
  clear hv0
  have hbw3 : Below w.heap.size w w3 := (show Below w.heap.size w _ by first | exact HW2.out.trans ⟨rfl, rfl, rfl, Nat.le_refl _, fun _ _ => rfl⟩ | exact HW2.out | (go_grown; done)).trans (hb.mono (by first | omega | (simp; done) | (simp; omega)))
  clear hb lt0 c0_0 c0_1 hbw2
  have HH0_3 := Lib.hid hh0
  have lt0 := heap_lt hh0
  have c0_0 : w3.cell? ⟨w.heap.size, 0, none⟩ = some (.int .i64 s) := by rw [Lib.cell_of_heap hh0]; rfl
  have c0_1 : w3.cell? ⟨w.heap.size, 1, none⟩ = some (.int .i64 n) := by rw [Lib.cell_of_heap hh0]; rfl
  clear hh0
  have sz3 := hbw3.size
  have HW3 := Lib.hid hbw3
  go_wp2_with fail
  refine (A3.out _ (by first | exact HW3.out | exact HW3.out.trans ⟨rfl, rfl, rfl, Nat.le_refl _, fun _ _ => rfl⟩ | (go_grown; done))).mono ?_; rintro e w4 ⟨rfl, hb⟩
  have hv0 := HH0_3.out
  have hh0 : w4.heap[w.heap.size]? = some (.cells #[.int .i64 s, .int .i64 n] 84 (0, 0)) := (hb.block _ (heap_lt hv0)).trans hv0
  clear hv0
  have hbw4 : Below w.heap.size w w4 := (show Below w.heap.size w _ by first | exact HW3.out.trans ⟨rfl, rfl, rfl, Nat.le_refl _, fun _ _ => rfl⟩ | exact HW3.out | (go_grown; done)).trans (hb.mono (by first | omega | (simp; done) | (simp; omega)))
  clear hb lt0 c0_0 c0_1 hbw3
  have HH0_4 := Lib.hid hh0
  have lt0 := heap_lt hh0
  have c0_0 : w4.cell? ⟨w.heap.size, 0, none⟩ = some (.int .i64 s) := by rw [Lib.cell_of_heap hh0]; rfl
  have c0_1 : w4.cell? ⟨w.heap.size, 1, none⟩ = some (.int .i64 n) := by rw [Lib.cell_of_heap hh0]; rfl
  clear hh0
  have sz4 := hbw4.size
  have HW4 := Lib.hid hbw4
  go_wp2_with fail
  refine (A4.out _ (by first | exact HW4.out | exact HW4.out.trans ⟨rfl, rfl, rfl, Nat.le_refl _, fun _ _ => rfl⟩ | (go_grown; done))).mono ?_; rintro e w5 ⟨rfl, hb⟩
  have hv0 := HH0_4.out
  have hh0 : w5.heap[w.heap.size]? = some (.cells #[.int .i64 s, .int .i64 n] 84 (0, 0)) := (hb.block _ (heap_lt hv0)).trans hv0
  clear hv0
  have hbw5 : Below w.heap.size w w5 := (show Below w.heap.size w _ by first | exact HW4.out.trans ⟨rfl, rfl, rfl, Nat.le_refl _, fun _ _ => rfl⟩ | exact HW4.out | (go_grown; done)).trans (hb.mono (by first | omega | (simp; done) | (simp; omega)))
  clear hb lt0 c0_0 c0_1 hbw4
  have HH0_5 := Lib.hid hh0
  have lt0 := heap_lt hh0
  have c0_0 : w5.cell? ⟨w.heap.size, 0, none⟩ = some (.int .i64 s) := by rw [Lib.cell_of_heap hh0]; rfl
  have c0_1 : w5.cell? ⟨w.heap.size, 1, none⟩ = some (.int .i64 n) := by rw [Lib.cell_of_heap hh0]; rfl
  clear hh0
  have sz5 := hbw5.size
  have HW5 := Lib.hid hbw5
  go_wp2_with fail
  refine (A5.out _ (by first | exact HW5.out | exact HW5.out.trans ⟨rfl, rfl, rfl, Nat.le_refl _, fun _ _ => rfl⟩ | (go_grown; done))).mono ?_; rintro e w6 ⟨rfl, hb⟩
  have hv0 := HH0_5.out
  have hh0 : w6.heap[w.heap.size]? = some (.cells #[.int .i64 s, .int .i64 n] 84 (0, 0)) := (hb.block _ (heap_lt hv0)).trans hv0
  clear hv0
  have hbw6 : Below w.heap.size w w6 := (show Below w.heap.size w _ by first | exact HW5.out.trans ⟨rfl, rfl, rfl, Nat.le_refl _, fun _ _ => rfl⟩ | exact HW5.out | (go_grown; done)).trans (hb.mono (by first | omega | (simp; done) | (simp; omega)))
  clear hb lt0 c0_0 c0_1 hbw5
  have HH0_6 := Lib.hid hh0
  have lt0 := heap_lt hh0
  have c0_0 : w6.cell? ⟨w.heap.size, 0, none⟩ = some (.int .i64 s) := by rw [Lib.cell_of_heap hh0]; rfl
  have c0_1 : w6.cell? ⟨w.heap.size, 1, none⟩ = some (.int .i64 n) := by rw [Lib.cell_of_heap hh0]; rfl
  clear hh0
  have sz6 := hbw6.size
  have HW6 := Lib.hid hbw6
  go_wp2_with fail
  refine (A6.out _ (by first | exact HW6.out | exact HW6.out.trans ⟨rfl, rfl, rfl, Nat.le_refl _, fun _ _ => rfl⟩ | (go_grown; done))).mono ?_; rintro e w7 ⟨rfl, hb⟩
  have hv0 := HH0_6.out
  have hh0 : w7.heap[w.heap.size]? = some (.cells #[.int .i64 s, .int .i64 n] 84 (0, 0)) := (hb.block _ (heap_lt hv0)).trans hv0
  clear hv0
  have hbw7 : Below w.heap.size w w7 := (show Below w.heap.size w _ by first | exact HW6.out.trans ⟨rfl, rfl, rfl, Nat.le_refl _, fun _ _ => rfl⟩ | exact HW6.out | (go_grown; done)).trans (hb.mono (by first | omega | (simp; done) | (simp; omega)))
  clear hb lt0 c0_0 c0_1 hbw6
  have HH0_7 := Lib.hid hh0
  have lt0 := heap_lt hh0
  have c0_0 : w7.cell? ⟨w.heap.size, 0, none⟩ = some (.int .i64 s) := by rw [Lib.cell_of_heap hh0]; rfl
  have c0_1 : w7.cell? ⟨w.heap.size, 1, none⟩ = some (.int .i64 n) := by rw [Lib.cell_of_heap hh0]; rfl
  clear hh0
  have sz7 := hbw7.size
  have HW7 := Lib.hid hbw7
  go_wp2_with fail
  refine (A7.out _ (by first | exact HW7.out | exact HW7.out.trans ⟨rfl, rfl, rfl, Nat.le_refl _, fun _ _ => rfl⟩ | (go_grown; done))).mono ?_; rintro e w8 ⟨rfl, hb⟩
  have hv0 := HH0_7.out
  have hh0 : w8.heap[w.heap.size]? = some (.cells #[.int .i64 s, .int .i64 n] 84 (0, 0)) := (hb.block _ (heap_lt hv0)).trans hv0
  clear hv0
  have hbw8 : Below w.heap.size w w8 := (show Below w.heap.size w _ by first | exact HW7.out.trans ⟨rfl, rfl, rfl, Nat.le_refl _, fun _ _ => rfl⟩ | exact HW7.out | (go_grown; done)).trans (hb.mono (by first | omega | (simp; done) | (simp; omega)))
  clear hb lt0 c0_0 c0_1 hbw7
  have HH0_8 := Lib.hid hh0
  have lt0 := heap_lt hh0
  have c0_0 : w8.cell? ⟨w.heap.size, 0, none⟩ = some (.int .i64 s) := by rw [Lib.cell_of_heap hh0]; rfl
  have c0_1 : w8.cell? ⟨w.heap.size, 1, none⟩ = some (.int .i64 n) := by rw [Lib.cell_of_heap hh0]; rfl
  clear hh0
  have sz8 := hbw8.size
  have HW8 := Lib.hid hbw8
  go_wp2_with fail
  refine (A8.out _ (by first | exact HW8.out | exact HW8.out.trans ⟨rfl, rfl, rfl, Nat.le_refl _, fun _ _ => rfl⟩ | (go_grown; done))).mono ?_; rintro e w9 ⟨rfl, hb⟩
  have hv0 := HH0_8.out
  have hh0 : w9.heap[w.heap.size]? = some (.cells #[.int .i64 s, .int .i64 n] 84 (0, 0)) := (hb.block _ (heap_lt hv0)).trans hv0
  clear hv0
  have hbw9 : Below w.heap.size w w9 := (show Below w.heap.size w _ by first | exact HW8.out.trans ⟨rfl, rfl, rfl, Nat.le_refl _, fun _ _ => rfl⟩ | exact HW8.out | (go_grown; done)).trans (hb.mono (by first | omega | (simp; done) | (simp; omega)))
  clear hb lt0 c0_0 c0_1 hbw8
  have HH0_9 := Lib.hid hh0
  have lt0 := heap_lt hh0
  have c0_0 : w9.cell? ⟨w.heap.size, 0, none⟩ = some (.int .i64 s) := by rw [Lib.cell_of_heap hh0]; rfl
  have c0_1 : w9.cell? ⟨w.heap.size, 1, none⟩ = some (.int .i64 n) := by rw [Lib.cell_of_heap hh0]; rfl
  clear hh0
  have sz9 := hbw9.size
  have HW9 := Lib.hid hbw9
  go_wp2_with fail
  go_ret2
  exact ⟨rfl, by first | exact HW9.out | (go_grown; done)⟩
end Go.Proofs.YtjhgiojmlkeccaaGreatDoor
namespace Go.Proofs.YtjhgiojmlkeccaaGreatDoor
open Go.RowKit Go.Shelf
/-- The digits of a fraction, without noughts behind. -/
def fracD (n : Int) : List UInt8 := Lib.trimRightB (digD n 9) 48
def dTextL (s n : Int) : List UInt8 :=
  digD (dateY (s / 86400 + -60)) 4 ++ [45] ++ digD (dateM (s / 86400 + -60)) 2 ++ [45] ++ digD (dateDD (s / 86400 + -60)) 2 ++ [84] ++ digD (s % 86400 / 3600) 2 ++ [58] ++ digD (s % 86400 / 60 % 60) 2 ++ [58] ++ digD (s % 86400 % 60) 2 ++
    (if 0 < n then 46 :: fracD n else []) ++ [90]
/-- A day's text, and the error. -/
def dText (s n : Int) : List UInt8 × Int := if dchk s n = 0 then (dTextL s n, 0) else ([], 120)
theorem dateY_bd (n : Int) (h0 : -1000 ≤ n) (h1 : n ≤ 4000000) : R (dateY n) := by
  have := eraY_bd (eraR n) (eraR_bd n).1 (eraR_bd n).2
  unfold dateY R
  split <;> omega
theorem dateM_bd (n : Int) : R (dateM n) := by
  have := monthD_bd (eraD (eraR n))
  unfold dateM R
  split <;> omega
theorem dateD_bd (n : Int) : R (dateDD n) := by
  have h1 := eraD_bd (eraR n) (eraR_bd n).1 (eraR_bd n).2
  have h2 := aheadD_bd (monthD (eraD (eraR n)))
  unfold dateDD R
  omega
theorem digD_len (n : Int) (hr : R n) (many : Nat) (hm : many ≤ 20) : (⟨(digD n many).toArray⟩ : ByteArray).size ≤ 41 := by
  rw [len_mk]
  unfold digD
  rw [List.length_append, List.length_replicate]
  have := len_itoa hr
  omega
theorem trimRB_len (l : List UInt8) (c : UInt8) : (Lib.trimRightB l c).length ≤ l.length := by
  unfold Lib.trimRightB
  rw [List.length_reverse]
  refine Nat.le_trans (List.dropWhile_sublist _).length_le ?_
  rw [List.length_reverse]; exact Nat.le_refl _
theorem dchk_0 {s n : Int} (h : dchk s n = 0) : 0 ≤ s ∧ s ≤ 315569519999 ∧ 0 ≤ n ∧ n ≤ 999999999 := by
  unfold dchk at h
  split at h
  · assumption
  · cases h
set_option maxRecDepth 100000 in
set_option maxHeartbeats 4000000 in
theorem dtext_any (s n : Int) (w : World) (ht : EnvT w) :
    Calls Tryz.prog 51 #[.agg #[.int .i64 s, .int .i64 n]] w fun e w' => e = .returned (.tuple #[.string ⟨(dText s n).1.toArray⟩, .int .i64 (dText s n).2]) ∧ Below w.heap.size w w' := by
  have HC : DoesU w 76 #[.agg #[.int .i64 s, .int .i64 n]] (.int .i64 (dchk s n)) := fun W _ => dcheck_any s n W
  unfold dText
  by_cases h : dchk s n = 0
  · rw [if_pos h]
    rw [h] at HC
    obtain ⟨hs0, hs1, hn0, hn1⟩ := dchk_0 h
    obtain ⟨k, hk⟩ : ∃ k, s / 86400 + -60 = k := ⟨_, rfl⟩
    have hkb : -1000 ≤ k ∧ k ≤ 4000000 := by omega
    have HDt : DoesU w 74 #[.int .i64 (s / 86400 + -60)] (.tuple #[.int .i64 (dateY k), .int .i64 (dateM k), .int .i64 (dateDD k)]) := fun W _ => by
      rw [hk]
      exact (date_any k hkb.1 hkb.2 W).mono fun e w' ⟨a, b⟩ => ⟨a, by rw [b]; exact Below.refl _ _⟩
    have HD : DoesU w 77 #[.agg #[.int .i64 s, .int .i64 n]] (.tuple #[.int .i64 (dateY k), .int .i64 (dateM k), .int .i64 (dateDD k), .int .i64 0]) := fun W hW => ddate_go s n _ _ _ hs0 hs1 W (Lib.hid (HC.below hW)) (Lib.hid (HDt.below hW))
    have HG : ∀ (x : Int) (many : Nat), R x → many ≤ 20 → DoesU w 78 #[.int .i64 x, .int .i64 (many : Nat)] (.string ⟨(digD x many).toArray⟩) := fun x many hx hm W hW => ddigits_any x hx many hm W (EnvT.stays ht hW)
    have ry := dateY_bd k hkb.1 hkb.2
    have rm := dateM_bd k
    have rd := dateD_bd k
    have r4 : R (s % 86400 / 3600) := by unfold R; omega
    have r5 : R (s % 86400 / 60 % 60) := by unfold R; omega
    have r6 : R (s % 86400 % 60) := by unfold R; omega
    unfold dTextL
    rw [hk]
    by_cases hn : 0 < n
    · rw [if_pos hn]
      have r7 : R n := by unfold R; omega
      have H8 : DoesU w 79 #[.string ⟨(digD n 9).toArray⟩, .string ⟨#[48]⟩] (.string ⟨(fracD n).toArray⟩) := fun W _ => by
        refine (Tryz.strings_TrimRight_one ⟨(digD n 9).toArray⟩ 48 (by decide) W ?_).mono fun e w' ⟨a, b⟩ => ⟨a, by rw [b]; exact Below.refl _ _⟩
        have := digD_len n r7 9 (by omega)
        omega
      have l8 : (⟨(fracD n).toArray⟩ : ByteArray).size ≤ 41 := by
        have h1 := digD_len n r7 9 (by omega)
        have h2 := trimRB_len (digD n 9) 48
        rw [len_mk] at h1 ⊢
        unfold fracD
        omega
      refine (dtext_n s n _ _ _ _ _ _ _ _ _ _ _ _ _ _ _ _ hs0 hs1 rfl (by omega) (by omega) rfl rfl (by omega) (by omega) rfl rfl (by simpa using hn) (digD_len _ ry 4 (by omega)) (digD_len _ rm 2 (by omega)) (digD_len _ rd 2 (by omega)) (digD_len _ r4 2 (by omega)) (digD_len _ r5 2 (by omega)) (digD_len _ r6 2 (by omega)) l8 w (Lib.hid HD) (Lib.hid (HG _ 4 ry (by omega))) (Lib.hid (HG _ 2 rm (by omega))) (Lib.hid (HG _ 2 rd (by omega))) (Lib.hid (HG _ 2 r4 (by omega))) (Lib.hid (HG _ 2 r5 (by omega))) (Lib.hid (HG _ 2 r6 (by omega))) (Lib.hid (HG _ 9 r7 (by omega))) (Lib.hid H8)).mono fun e w' ⟨a, b⟩ => ⟨?_, b⟩
      rw [a]
      have e45 : (⟨#[45]⟩ : ByteArray) = ⟨([45] : List UInt8).toArray⟩ := rfl
      have e84 : (⟨#[84]⟩ : ByteArray) = ⟨([84] : List UInt8).toArray⟩ := rfl
      have e58 : (⟨#[58]⟩ : ByteArray) = ⟨([58] : List UInt8).toArray⟩ := rfl
      have e46 : (⟨#[46]⟩ : ByteArray) = ⟨([46] : List UInt8).toArray⟩ := rfl
      have e90 : (⟨#[90]⟩ : ByteArray) = ⟨([90] : List UInt8).toArray⟩ := rfl
      rw [e45, e84, e58, e46, e90]
      simp only [cat, List.cons_append, List.nil_append]
    · rw [if_neg hn]
      refine (dtext_0 s n _ _ _ _ _ _ _ _ _ _ _ _ _ _ hs0 hs1 rfl (by omega) (by omega) rfl rfl (by omega) (by omega) rfl rfl (by simpa using hn) (digD_len _ ry 4 (by omega)) (digD_len _ rm 2 (by omega)) (digD_len _ rd 2 (by omega)) (digD_len _ r4 2 (by omega)) (digD_len _ r5 2 (by omega)) (digD_len _ r6 2 (by omega)) w (Lib.hid HD) (Lib.hid (HG _ 4 ry (by omega))) (Lib.hid (HG _ 2 rm (by omega))) (Lib.hid (HG _ 2 rd (by omega))) (Lib.hid (HG _ 2 r4 (by omega))) (Lib.hid (HG _ 2 r5 (by omega))) (Lib.hid (HG _ 2 r6 (by omega)))).mono fun e w' ⟨a, b⟩ => ⟨?_, b⟩
      rw [a]
      have e45 : (⟨#[45]⟩ : ByteArray) = ⟨([45] : List UInt8).toArray⟩ := rfl
      have e84 : (⟨#[84]⟩ : ByteArray) = ⟨([84] : List UInt8).toArray⟩ := rfl
      have e58 : (⟨#[58]⟩ : ByteArray) = ⟨([58] : List UInt8).toArray⟩ := rfl
      have e90 : (⟨#[90]⟩ : ByteArray) = ⟨([90] : List UInt8).toArray⟩ := rfl
      rw [e45, e84, e58, e90]
      simp only [cat, List.append_nil]
  · have h120 : dchk s n = 120 := by unfold dchk at h ⊢; split <;> simp_all
    rw [if_neg h]
    rw [h120] at HC
    exact dtext_no s n w (Lib.hid fun W hW => ddate_no s n W (Lib.hid (HC.below hW)))
set_option maxRecDepth 100000 in
set_option maxHeartbeats 4000000 in
theorem sdate_no (s : ByteArray) (a b e0 : Int) (he : (e0 != 0) = true) (w : World) (H1 : Hid (DoesU w 50 #[.string s] (.tuple #[.agg #[.int .i64 a, .int .i64 b], .int .i64 e0]))) :
    Calls Tryz.prog 33 #[.string s] w fun e w' => e = .returned (.tuple #[.string ⟨#[]⟩, .int .i64 e0]) ∧ Below w.heap.size w w' := by
  go_enter Tryz.func33, Tryz.ntmps33
  go_wp2_with fail
  refine (H1.out _ (by first | exact Below.refl _ _ | (go_grown; done))).mono ?_; rintro e w1 ⟨rfl, hb⟩
  have hbw1 : Below w.heap.size w w1 := (show Below w.heap.size w _ by first | exact Below.refl _ _ | (go_grown; done)).trans (hb.mono (by first | omega | (simp; done) | (simp; omega)))
  clear hb
  have sz1 := hbw1.size
  have HW1 := Lib.hid hbw1
  go_wp2_with fail
  go_ret2
  exact ⟨rfl, by first | exact HW1.out | (go_grown; done)⟩
set_option maxRecDepth 100000 in
set_option maxHeartbeats 4000000 in
theorem sdate_go (s t : ByteArray) (a b e0 : Int) (w : World) (H1 : Hid (DoesU w 50 #[.string s] (.tuple #[.agg #[.int .i64 a, .int .i64 b], .int .i64 0]))) (H2 : Hid (DoesU w 51 #[.agg #[.int .i64 a, .int .i64 b]] (.tuple #[.string t, .int .i64 e0]))) :
    Calls Tryz.prog 33 #[.string s] w fun e w' => e = .returned (.tuple #[.string t, .int .i64 e0]) ∧ Below w.heap.size w w' := by
  go_enter Tryz.func33, Tryz.ntmps33
  go_wp2_with fail
  refine (H1.out _ (by first | exact Below.refl _ _ | (go_grown; done))).mono ?_; rintro e w1 ⟨rfl, hb⟩
  have hbw1 : Below w.heap.size w w1 := (show Below w.heap.size w _ by first | exact Below.refl _ _ | (go_grown; done)).trans (hb.mono (by first | omega | (simp; done) | (simp; omega)))
  clear hb
  have sz1 := hbw1.size
  have HW1 := Lib.hid hbw1
  go_wp2_with fail
  refine (H2.out _ (by first | exact HW1.out | exact HW1.out.trans ⟨rfl, rfl, rfl, Nat.le_refl _, fun _ _ => rfl⟩ | (go_grown; done))).mono ?_; rintro e w2 ⟨rfl, hb⟩
  have hh0 : w2.heap[w1.heap.size]? = some (.cells #[.int .i64 a, .int .i64 b] 84 (0, 0)) := (hb.block _ (by first | omega | (simp; done) | (simp; omega))).trans (heap_new _ _ _ (by first | rfl | simp))
  have hbw2 : Below w.heap.size w w2 := (show Below w.heap.size w _ by first | exact HW1.out.trans ⟨rfl, rfl, rfl, Nat.le_refl _, fun _ _ => rfl⟩ | exact HW1.out | (go_grown; done)).trans (hb.mono (by first | omega | (simp; done) | (simp; omega)))
  clear hb hbw1
  have HH0_2 := Lib.hid hh0
  have lt0 := heap_lt hh0
  have c0_0 : w2.cell? ⟨w1.heap.size, 0, none⟩ = some (.int .i64 a) := by rw [Lib.cell_of_heap hh0]; rfl
  have f0_0 : w2.frozen? ⟨w1.heap.size, 0, none⟩ = false := Lib.frozen_of_heap hh0 0
  have c0_1 : w2.cell? ⟨w1.heap.size, 1, none⟩ = some (.int .i64 b) := by rw [Lib.cell_of_heap hh0]; rfl
  have f0_1 : w2.frozen? ⟨w1.heap.size, 1, none⟩ = false := Lib.frozen_of_heap hh0 1
  clear hh0
  have sz2 := hbw2.size
  have HW2 := Lib.hid hbw2
  go_wp2_with fail
  go_ret2
  exact ⟨rfl, by first | exact HW2.out | (go_grown; done)⟩
theorem bytes_of (s : ByteArray) : (⟨s.data.toList.toArray⟩ : ByteArray) = s := by cases s; simp
def dayC : ByteArray → ByteArray × Int := fun s => if (dParse s.data.toList).2.2 = 0 then (⟨(dText (dParse s.data.toList).1 (dParse s.data.toList).2.1).1.toArray⟩, (dText (dParse s.data.toList).1 (dParse s.data.toList).2.1).2) else (⟨#[]⟩, (dParse s.data.toList).2.2)
theorem dparse_d (s : ByteArray) (hs : s.size ≤ 1000000) (w : World) : DoesU w 50 #[.string s] (.tuple #[.agg #[.int .i64 (dParse s.data.toList).1, .int .i64 (dParse s.data.toList).2.1], .int .i64 (dParse s.data.toList).2.2]) := fun W _ => by
  have := dparse_any s.data.toList (by rw [Array.length_toList]; exact hs) W
  rw [bytes_of] at this
  exact this
theorem day_c (w : World) (ht : EnvT w) : CanC w 33 #[] dayC := fun s hs W hW => by
  rw [app_nil]; unfold dayC
  have hP := dparse_d s (by omega) W
  have hT : ∀ a b : Int, DoesU W 51 #[.agg #[.int .i64 a, .int .i64 b]] (.tuple #[.string ⟨(dText a b).1.toArray⟩, .int .i64 (dText a b).2]) := fun a b W' hW' => dtext_any a b W' (EnvT.stays (EnvT.stays ht hW) hW')
  generalize dParse s.data.toList = p at *
  obtain ⟨a, b, e0⟩ := p
  dsimp only at *
  by_cases h : e0 = 0
  · subst h
    rw [if_pos rfl]
    exact sdate_go s _ a b _ W (Lib.hid hP) (Lib.hid (hT a b))
  · rw [if_neg h]
    exact sdate_no s a b e0 (by simpa using h) W (Lib.hid hP)
theorem kind_5 (w : World) (hE : EnvS w) :
    Calls Tryz.prog 15 #[.int .u8 5] w fun e w' => (∃ cap : Array Value, e = .returned (.tuple #[.agg #[.func (.func 46) #[] cap, (.func (.func 34) #[] #[]), .nilFunc, .bool false], .int .i64 0]) ∧ PlC w' 46 cap (.func (.func 34) #[] #[]) .nilFunc false (toldR dayC)) ∧ Below w.heap.size w w' := by
  refine (of_5 w).mono ?_
  rintro e w1 ⟨⟨p5, rfl, h1⟩, hb⟩
  exact ⟨⟨_, rfl, plain_c _ _ _ _ _ _ w1 ent_told (told_c p5 _ #[] dayC w1 h1 (enters_of Tryz.func33 (by kernel_rfl) rfl) (hE.u.below hb) (day_c w1 (hE.r.stays hb).tab))⟩, hb⟩
end Go.Proofs.YtjhgiojmlkeccaaGreatDoor
namespace Go.Proofs.YtjhgiojmlkeccaaGreatDoor
open Go.RowKit Go.Shelf
theorem encode_high (r : Int) (h : 128 ≤ r) : 2 ≤ (Utf8.encode r).size ∧ ∀ (k : Nat) (hk : k < (Utf8.encode r).size), 128 ≤ ((Utf8.encode r)[k]).toNat := by
  have hc : ∃ c : Nat, 128 ≤ c ∧ c < 1114112 ∧ Utf8.encode r = (let b (n : Nat) : UInt8 := UInt8.ofNat n
      if c < 0x80 then ⟨#[b c]⟩
      else if c < 0x800 then ⟨#[b (0xC0 + c / 64), b (0x80 + c % 64)]⟩
      else if c < 0x10000 then ⟨#[b (0xE0 + c / 4096), b (0x80 + c / 64 % 64), b (0x80 + c % 64)]⟩
      else ⟨#[b (0xF0 + c / 262144), b (0x80 + c / 4096 % 64), b (0x80 + c / 64 % 64), b (0x80 + c % 64)]⟩) := by
    refine ⟨if Utf8.valid r then r.toNat else Utf8.runeError, ?_, ?_, rfl⟩
    · split
      · omega
      · decide
    · split
      · rename_i hv
        simp only [Utf8.valid, Bool.or_eq_true, Bool.and_eq_true, decide_eq_true_eq] at hv
        omega
      · decide
  obtain ⟨c, h1, h2, e⟩ := hc
  rw [e]
  simp only
  split
  · exfalso; omega
  split
  · refine ⟨by show 2 ≤ Array.size _; simp, ?_⟩
    intro k hk
    match k, hk with
    | 0, _ => show 128 ≤ (UInt8.ofNat (192 + c / 64)).toNat; rw [UInt8.toNat_ofNat']; omega
    | 1, _ => show 128 ≤ (UInt8.ofNat (128 + c % 64)).toNat; rw [UInt8.toNat_ofNat']; omega
  · split
    · refine ⟨by show 2 ≤ Array.size _; simp, ?_⟩
      intro k hk
      match k, hk with
      | 0, _ => show 128 ≤ (UInt8.ofNat (224 + c / 4096)).toNat; rw [UInt8.toNat_ofNat']; omega
      | 1, _ => show 128 ≤ (UInt8.ofNat (128 + c / 64 % 64)).toNat; rw [UInt8.toNat_ofNat']; omega
      | 2, _ => show 128 ≤ (UInt8.ofNat (128 + c % 64)).toNat; rw [UInt8.toNat_ofNat']; omega
    · refine ⟨by show 2 ≤ Array.size _; simp, ?_⟩
      intro k hk
      match k, hk with
      | 0, _ => show 128 ≤ (UInt8.ofNat (240 + c / 262144)).toNat; rw [UInt8.toNat_ofNat']; omega
      | 1, _ => show 128 ≤ (UInt8.ofNat (128 + c / 4096 % 64)).toNat; rw [UInt8.toNat_ofNat']; omega
      | 2, _ => show 128 ≤ (UInt8.ofNat (128 + c / 64 % 64)).toNat; rw [UInt8.toNat_ofNat']; omega
      | 3, _ => show 128 ≤ (UInt8.ofNat (128 + c % 64)).toNat; rw [UInt8.toNat_ofNat']; omega
theorem hex_high (k : Nat) (c : UInt8) (hc : 128 ≤ c.toNat) : Lib.indexByte ((⟨#[48, 49, 50, 51, 52, 53, 54, 55, 56, 57, 97, 98, 99, 100, 101, 102]⟩ : ByteArray).extract k 16).data.toList c = -1 := by
  rw [Lib.extract_data]
  obtain ⟨L, hL⟩ : ∃ L, List.take (16 - k) (List.drop k (⟨#[48, 49, 50, 51, 52, 53, 54, 55, 56, 57, 97, 98, 99, 100, 101, 102]⟩ : ByteArray).data.toList) = L := ⟨_, rfl⟩
  rw [hL]
  have hg := Lib.indexByte_ge L c
  refine Classical.byContradiction fun hn => ?_
  obtain ⟨o, ho⟩ : ∃ o : Nat, Lib.indexByte L c = o := ⟨(Lib.indexByte L c).toNat, by omega⟩
  have hm := List.mem_of_getElem? (Lib.indexByte_some ho).1
  rw [← hL] at hm
  have hm2 : c ∈ (⟨#[48, 49, 50, 51, 52, 53, 54, 55, 56, 57, 97, 98, 99, 100, 101, 102]⟩ : ByteArray).data.toList := List.mem_of_mem_drop (List.mem_of_mem_take hm)
  have h3 : ∀ x ∈ (⟨#[48, 49, 50, 51, 52, 53, 54, 55, 56, 57, 97, 98, 99, 100, 101, 102]⟩ : ByteArray).data.toList, x.toNat < 128 := by decide
  have := h3 c hm2
  omega
set_option maxRecDepth 100000 in
set_option maxHeartbeats 1000000 in
theorem hexr_none (r : Int) (h : 128 ≤ r) (h2 : r ≤ 2147483647) (w : World) :
    Calls Tryz.prog 82 #[.string ⟨#[48, 49, 50, 51, 52, 53, 54, 55, 56, 57, 97, 98, 99, 100, 101, 102]⟩, .int .i32 r] w fun e w' => e = .returned (.int .i64 (-1)) ∧ Below w.heap.size w w' := by
  have h0 : 0 ≤ r := by omega
  have h1 : ¬ r < 128 := by omega
  by_cases he : r = 65533
  · subst he
    have n0 := fun (w : World) ty => run_next_ascii (P := Tryz.prog) w ⟨#[48, 49, 50, 51, 52, 53, 54, 55, 56, 57, 97, 98, 99, 100, 101, 102]⟩ 0 ty (by decide) (by decide)
    have n1 := fun (w : World) ty => run_next_ascii (P := Tryz.prog) w ⟨#[48, 49, 50, 51, 52, 53, 54, 55, 56, 57, 97, 98, 99, 100, 101, 102]⟩ 1 ty (by decide) (by decide)
    have n2 := fun (w : World) ty => run_next_ascii (P := Tryz.prog) w ⟨#[48, 49, 50, 51, 52, 53, 54, 55, 56, 57, 97, 98, 99, 100, 101, 102]⟩ 2 ty (by decide) (by decide)
    have n3 := fun (w : World) ty => run_next_ascii (P := Tryz.prog) w ⟨#[48, 49, 50, 51, 52, 53, 54, 55, 56, 57, 97, 98, 99, 100, 101, 102]⟩ 3 ty (by decide) (by decide)
    have n4 := fun (w : World) ty => run_next_ascii (P := Tryz.prog) w ⟨#[48, 49, 50, 51, 52, 53, 54, 55, 56, 57, 97, 98, 99, 100, 101, 102]⟩ 4 ty (by decide) (by decide)
    have n5 := fun (w : World) ty => run_next_ascii (P := Tryz.prog) w ⟨#[48, 49, 50, 51, 52, 53, 54, 55, 56, 57, 97, 98, 99, 100, 101, 102]⟩ 5 ty (by decide) (by decide)
    have n6 := fun (w : World) ty => run_next_ascii (P := Tryz.prog) w ⟨#[48, 49, 50, 51, 52, 53, 54, 55, 56, 57, 97, 98, 99, 100, 101, 102]⟩ 6 ty (by decide) (by decide)
    have n7 := fun (w : World) ty => run_next_ascii (P := Tryz.prog) w ⟨#[48, 49, 50, 51, 52, 53, 54, 55, 56, 57, 97, 98, 99, 100, 101, 102]⟩ 7 ty (by decide) (by decide)
    have n8 := fun (w : World) ty => run_next_ascii (P := Tryz.prog) w ⟨#[48, 49, 50, 51, 52, 53, 54, 55, 56, 57, 97, 98, 99, 100, 101, 102]⟩ 8 ty (by decide) (by decide)
    have n9 := fun (w : World) ty => run_next_ascii (P := Tryz.prog) w ⟨#[48, 49, 50, 51, 52, 53, 54, 55, 56, 57, 97, 98, 99, 100, 101, 102]⟩ 9 ty (by decide) (by decide)
    have n10 := fun (w : World) ty => run_next_ascii (P := Tryz.prog) w ⟨#[48, 49, 50, 51, 52, 53, 54, 55, 56, 57, 97, 98, 99, 100, 101, 102]⟩ 10 ty (by decide) (by decide)
    have n11 := fun (w : World) ty => run_next_ascii (P := Tryz.prog) w ⟨#[48, 49, 50, 51, 52, 53, 54, 55, 56, 57, 97, 98, 99, 100, 101, 102]⟩ 11 ty (by decide) (by decide)
    have n12 := fun (w : World) ty => run_next_ascii (P := Tryz.prog) w ⟨#[48, 49, 50, 51, 52, 53, 54, 55, 56, 57, 97, 98, 99, 100, 101, 102]⟩ 12 ty (by decide) (by decide)
    have n13 := fun (w : World) ty => run_next_ascii (P := Tryz.prog) w ⟨#[48, 49, 50, 51, 52, 53, 54, 55, 56, 57, 97, 98, 99, 100, 101, 102]⟩ 13 ty (by decide) (by decide)
    have n14 := fun (w : World) ty => run_next_ascii (P := Tryz.prog) w ⟨#[48, 49, 50, 51, 52, 53, 54, 55, 56, 57, 97, 98, 99, 100, 101, 102]⟩ 14 ty (by decide) (by decide)
    have n15 := fun (w : World) ty => run_next_ascii (P := Tryz.prog) w ⟨#[48, 49, 50, 51, 52, 53, 54, 55, 56, 57, 97, 98, 99, 100, 101, 102]⟩ 15 ty (by decide) (by decide)
    have n16 := fun (w : World) ty => run_next_end (P := Tryz.prog) w ⟨#[48, 49, 50, 51, 52, 53, 54, 55, 56, 57, 97, 98, 99, 100, 101, 102]⟩ 16 ty (by decide)
    go_enter Tryz.func82, Tryz.ntmps82
    go_wp2_with fail
    refine wp_loop_rounds 17 ?_
    rw [rounds_succ]
    go_wp2_with fail
    rw [rounds_succ]
    go_wp2_with fail
    rw [rounds_succ]
    go_wp2_with fail
    rw [rounds_succ]
    go_wp2_with fail
    rw [rounds_succ]
    go_wp2_with fail
    rw [rounds_succ]
    go_wp2_with fail
    rw [rounds_succ]
    go_wp2_with fail
    rw [rounds_succ]
    go_wp2_with fail
    rw [rounds_succ]
    go_wp2_with fail
    rw [rounds_succ]
    go_wp2_with fail
    rw [rounds_succ]
    go_wp2_with fail
    rw [rounds_succ]
    go_wp2_with fail
    rw [rounds_succ]
    go_wp2_with fail
    rw [rounds_succ]
    go_wp2_with fail
    rw [rounds_succ]
    go_wp2_with fail
    rw [rounds_succ]
    go_wp2_with fail
    rw [rounds_succ]
    go_wp2_with fail
    go_ret
    refine ⟨rfl, ?_⟩
    unfold World.iter
    exact (Below.refl _ _).alloc (Nat.le_refl _) _
  · have HV := Lib.hid (fun w => Tryz.utf8_ValidRune r w)
    have HE := Lib.hid (encode_high r h)
    obtain ⟨vb, hvb⟩ : ∃ b, Lib.validRune r = b := ⟨_, rfl⟩
    rw [hvb] at HV
    clear hvb
    cases vb
    · go_enter Tryz.func82, Tryz.ntmps82
      go_wp2_with fail
      refine (HV.out _).mono ?_; rintro e w1 ⟨rfl, rfl⟩
      go_wp2_with fail
      go_ret
      exact ⟨rfl, Below.refl _ _⟩
    · obtain ⟨rs, hrs⟩ : ∃ rs : ByteArray, Utf8.encode r = rs := ⟨_, rfl⟩
      rw [hrs] at HE
      have hsz : 2 ≤ rs.size := HE.out.1
      have hsz4 : rs.size ≤ 4 := by rw [← hrs]; exact encode_size_le r
      have hcs : rs.size = 2 ∨ rs.size = 3 ∨ rs.size = 4 := by omega
      rcases hcs with hs | hs | hs
      · have hl : 128 ≤ (rs[1]'(by omega)).toNat := HE.out.2 1 (by omega)
        obtain ⟨c, hc⟩ : ∃ c : UInt8, rs[1]'(by omega) = c := ⟨_, rfl⟩
        rw [hc] at hl
        have hcg : ∀ hk, rs[1]'hk = c := fun _ => hc
        have hrest : (⟨#[48, 49, 50, 51, 52, 53, 54, 55, 56, 57, 97, 98, 99, 100, 101, 102]⟩ : ByteArray).extract 2 16 = ⟨#[50, 51, 52, 53, 54, 55, 56, 57, 97, 98, 99, 100, 101, 102]⟩ := rfl
        have HB : Hid (∀ W, Calls Tryz.prog 117 #[.string ⟨#[50, 51, 52, 53, 54, 55, 56, 57, 97, 98, 99, 100, 101, 102]⟩, .int .u8 (c.toNat : Int)] W fun e w' => e = .returned (.int .i64 (-1)) ∧ W = w') := Lib.hid fun W => by
          have := Tryz.strings_IndexByte ⟨#[50, 51, 52, 53, 54, 55, 56, 57, 97, 98, 99, 100, 101, 102]⟩ (c.toNat : Int) W
          rw [show ((c.toNat : Int)).toNat.toUInt8 = c by simp, ← hrest, hex_high 2 c hl] at this
          exact this.mono fun e w' ⟨a, b⟩ => ⟨a, b.symm⟩
        have hne : (((⟨#[48, 49, 50, 51, 52, 53, 54, 55, 56, 57, 97, 98, 99, 100, 101, 102]⟩ : ByteArray)[1]'(by decide)).toNat : Int) = 49 := rfl
        have hwr : IntKind.i64.wrap 2 = 2 := by decide
        have hl1 : ¬ ((49 : Int) = (c.toNat : Int)) := by omega
        clear hc
        go_enter Tryz.func82, Tryz.ntmps82
        go_wp2_with fail
        refine (HV.out _).mono ?_; rintro e w1 ⟨rfl, rfl⟩
        go_wp2_with fail
        go_step3
        go_wp2_with fail
        refine wp_loop_rounds 1 ?_
        rw [rounds_succ]
        go_wp2_with fail
        go_step3
        go_wp2_with fail
        go_quiet (fail)
        go_wp2_with fail
        go_region_held3 (fun W => Below w1.heap.size w1 W) (first | assumption | exact ⟨rfl, rfl, rfl, Nat.le_refl _, fun _ _ => rfl⟩) (first | (go_at_call 117; refine (HB.out _).mono ?_; rintro e w3 ⟨rfl, rfl⟩) | fail)
        rename_i hS
        go_wp2_with fail
        rw [Exit.noGoto_ret]
        go_wp2_with fail
        rw [Exit.noGoto_ret]
        go_ret
        exact ⟨rfl, hS⟩
      · have hl : 128 ≤ (rs[2]'(by omega)).toNat := HE.out.2 2 (by omega)
        obtain ⟨c, hc⟩ : ∃ c : UInt8, rs[2]'(by omega) = c := ⟨_, rfl⟩
        rw [hc] at hl
        have hcg : ∀ hk, rs[2]'hk = c := fun _ => hc
        have hrest : (⟨#[48, 49, 50, 51, 52, 53, 54, 55, 56, 57, 97, 98, 99, 100, 101, 102]⟩ : ByteArray).extract 3 16 = ⟨#[51, 52, 53, 54, 55, 56, 57, 97, 98, 99, 100, 101, 102]⟩ := rfl
        have HB : Hid (∀ W, Calls Tryz.prog 117 #[.string ⟨#[51, 52, 53, 54, 55, 56, 57, 97, 98, 99, 100, 101, 102]⟩, .int .u8 (c.toNat : Int)] W fun e w' => e = .returned (.int .i64 (-1)) ∧ W = w') := Lib.hid fun W => by
          have := Tryz.strings_IndexByte ⟨#[51, 52, 53, 54, 55, 56, 57, 97, 98, 99, 100, 101, 102]⟩ (c.toNat : Int) W
          rw [show ((c.toNat : Int)).toNat.toUInt8 = c by simp, ← hrest, hex_high 3 c hl] at this
          exact this.mono fun e w' ⟨a, b⟩ => ⟨a, b.symm⟩
        have hne : (((⟨#[48, 49, 50, 51, 52, 53, 54, 55, 56, 57, 97, 98, 99, 100, 101, 102]⟩ : ByteArray)[2]'(by decide)).toNat : Int) = 50 := rfl
        have hwr : IntKind.i64.wrap 3 = 3 := by decide
        have hl1 : ¬ ((50 : Int) = (c.toNat : Int)) := by omega
        clear hc
        go_enter Tryz.func82, Tryz.ntmps82
        go_wp2_with fail
        refine (HV.out _).mono ?_; rintro e w1 ⟨rfl, rfl⟩
        go_wp2_with fail
        go_step3
        go_wp2_with fail
        refine wp_loop_rounds 1 ?_
        rw [rounds_succ]
        go_wp2_with fail
        go_step3
        go_wp2_with fail
        go_quiet (fail)
        go_wp2_with fail
        go_region_held3 (fun W => Below w1.heap.size w1 W) (first | assumption | exact ⟨rfl, rfl, rfl, Nat.le_refl _, fun _ _ => rfl⟩) (first | (go_at_call 117; refine (HB.out _).mono ?_; rintro e w3 ⟨rfl, rfl⟩) | fail)
        rename_i hS
        go_wp2_with fail
        rw [Exit.noGoto_ret]
        go_wp2_with fail
        rw [Exit.noGoto_ret]
        go_ret
        exact ⟨rfl, hS⟩
      · have hl : 128 ≤ (rs[3]'(by omega)).toNat := HE.out.2 3 (by omega)
        obtain ⟨c, hc⟩ : ∃ c : UInt8, rs[3]'(by omega) = c := ⟨_, rfl⟩
        rw [hc] at hl
        have hcg : ∀ hk, rs[3]'hk = c := fun _ => hc
        have hrest : (⟨#[48, 49, 50, 51, 52, 53, 54, 55, 56, 57, 97, 98, 99, 100, 101, 102]⟩ : ByteArray).extract 4 16 = ⟨#[52, 53, 54, 55, 56, 57, 97, 98, 99, 100, 101, 102]⟩ := rfl
        have HB : Hid (∀ W, Calls Tryz.prog 117 #[.string ⟨#[52, 53, 54, 55, 56, 57, 97, 98, 99, 100, 101, 102]⟩, .int .u8 (c.toNat : Int)] W fun e w' => e = .returned (.int .i64 (-1)) ∧ W = w') := Lib.hid fun W => by
          have := Tryz.strings_IndexByte ⟨#[52, 53, 54, 55, 56, 57, 97, 98, 99, 100, 101, 102]⟩ (c.toNat : Int) W
          rw [show ((c.toNat : Int)).toNat.toUInt8 = c by simp, ← hrest, hex_high 4 c hl] at this
          exact this.mono fun e w' ⟨a, b⟩ => ⟨a, b.symm⟩
        have hne : (((⟨#[48, 49, 50, 51, 52, 53, 54, 55, 56, 57, 97, 98, 99, 100, 101, 102]⟩ : ByteArray)[3]'(by decide)).toNat : Int) = 51 := rfl
        have hwr : IntKind.i64.wrap 4 = 4 := by decide
        have hl1 : ¬ ((51 : Int) = (c.toNat : Int)) := by omega
        clear hc
        go_enter Tryz.func82, Tryz.ntmps82
        go_wp2_with fail
        refine (HV.out _).mono ?_; rintro e w1 ⟨rfl, rfl⟩
        go_wp2_with fail
        go_step3
        go_wp2_with fail
        refine wp_loop_rounds 1 ?_
        rw [rounds_succ]
        go_wp2_with fail
        go_step3
        go_wp2_with fail
        go_quiet (fail)
        go_wp2_with fail
        go_region_held3 (fun W => Below w1.heap.size w1 W) (first | assumption | exact ⟨rfl, rfl, rfl, Nat.le_refl _, fun _ _ => rfl⟩) (first | (go_at_call 117; refine (HB.out _).mono ?_; rintro e w3 ⟨rfl, rfl⟩) | fail)
        rename_i hS
        go_wp2_with fail
        rw [Exit.noGoto_ret]
        go_wp2_with fail
        rw [Exit.noGoto_ret]
        go_ret
        exact ⟨rfl, hS⟩
end Go.Proofs.YtjhgiojmlkeccaaGreatDoor
namespace Go.Proofs.YtjhgiojmlkeccaaGreatDoor
open Go.RowKit Go.Shelf
def dashU (k : Nat) : Bool := k == 8 || k == 13 || k == 18 || k == 23
/-- How many digits stand ahead of a place. -/
def ndU (k : Nat) : Nat := k - (if 23 < k then 4 else if 18 < k then 3 else if 13 < k then 2 else if 8 < k then 1 else 0)
def hexU (x : Nat) : UInt8 := if x < 10 then UInt8.ofNat (48 + x) else UInt8.ofNat (87 + x)
/-- A digit of bytes. -/
def nibU (u : Nat → Nat) (n : Nat) : Nat := if n % 2 = 0 then u (n / 2) / 16 else u (n / 2) % 16
def chrU (u : Nat → Nat) (k : Nat) : UInt8 := if dashU k then 45 else hexU (nibU u (ndU k))
def txtU (u : Nat → Nat) (k : Nat) : List UInt8 := (List.range k).map (chrU u)
theorem txtU_succ (u : Nat → Nat) (k : Nat) : txtU u (k + 1) = txtU u k ++ [chrU u k] := by
  unfold txtU; rw [List.range_succ, List.map_append]; rfl
theorem txtU_len (u : Nat → Nat) (k : Nat) : (txtU u k).length = k := by unfold txtU; simp
theorem ndU_succ (k : Nat) (hk : k < 36) : ndU (k + 1) = if dashU k then ndU k else ndU k + 1 := by
  have : ∀ k : Fin 36, ndU (k.1 + 1) = if dashU k.1 then ndU k.1 else ndU k.1 + 1 := by decide +kernel
  exact this ⟨k, hk⟩
theorem ndU_lt (k : Nat) (hk : k < 36) (hd : dashU k = false) : ndU k ≤ 31 := by
  have : ∀ k : Fin 36, dashU k.1 = false → ndU k.1 ≤ 31 := by decide +kernel
  exact this ⟨k, hk⟩ hd
theorem shape_at (k : Nat) (hk : k < (⟨#[120, 120, 120, 120, 120, 120, 120, 120, 45, 120, 120, 120, 120, 45, 120, 120, 120, 120, 45, 120, 120, 120, 120, 45, 120, 120, 120, 120, 120, 120, 120, 120, 120, 120, 120, 120]⟩ : ByteArray).size) : (((⟨#[120, 120, 120, 120, 120, 120, 120, 120, 45, 120, 120, 120, 120, 45, 120, 120, 120, 120, 45, 120, 120, 120, 120, 45, 120, 120, 120, 120, 120, 120, 120, 120, 120, 120, 120, 120]⟩ : ByteArray)[k]'hk).toNat : Int) = if dashU k then 45 else 120 := by
  have : ∀ k : Fin 36, (((⟨#[120, 120, 120, 120, 120, 120, 120, 120, 45, 120, 120, 120, 120, 45, 120, 120, 120, 120, 45, 120, 120, 120, 120, 45, 120, 120, 120, 120, 120, 120, 120, 120, 120, 120, 120, 120]⟩ : ByteArray)[k.1]'k.2).toNat : Int) = if dashU k.1 then 45 else 120 := by decide +kernel
  exact this ⟨k, hk⟩
theorem hex_at (x : Nat) (hx : x < (⟨#[48, 49, 50, 51, 52, 53, 54, 55, 56, 57, 97, 98, 99, 100, 101, 102]⟩ : ByteArray).size) : ((⟨#[48, 49, 50, 51, 52, 53, 54, 55, 56, 57, 97, 98, 99, 100, 101, 102]⟩ : ByteArray)[x]'hx) = hexU x := by
  have : ∀ x : Fin 16, ((⟨#[48, 49, 50, 51, 52, 53, 54, 55, 56, 57, 97, 98, 99, 100, 101, 102]⟩ : ByteArray)[x.1]'x.2) = hexU x.1 := by decide +kernel
  exact this ⟨x, hx⟩
theorem and15 (x : Nat) (hx : x < 256) : bits BinOp.and IntKind.u8 (x : Int) 15 = ((x % 16 : Nat) : Int) := by
  have : ∀ x : Fin 256, bits BinOp.and IntKind.u8 (x.1 : Int) 15 = ((x.1 % 16 : Nat) : Int) := by decide +kernel
  exact this ⟨x, hx⟩
set_option maxRecDepth 100000 in
set_option maxHeartbeats 4000000 in
theorem utext_any (X : Array Value) (u : Nat → Nat) (hX : X.size = 16) (hx : ∀ j, j < 16 → X[j]? = some (.int .u8 (u j : Int))) (hu : ∀ j, u j < 256) (w : World) :
    Calls Tryz.prog 54 #[.agg X] w fun e w' => e = .returned (.string ⟨(txtU u 36).toArray⟩) ∧ Below w.heap.size w w' := by
  have HX := Lib.hid hx
  have HU := Lib.hid hu
  obtain ⟨w0, hw0⟩ : ∃ w0 : World, w0 = w.alloc (.cells X 89 (0, 0)) := ⟨_, rfl⟩
  have HBX : Hid (w0.heap[w.heap.size]? = some (.cells X 89 (0, 0))) := Lib.hid (by rw [hw0]; exact heap_new _ _ _ rfl)
  clear hx hu
  obtain ⟨i0, hi, hz0, hz1, hz2⟩ := info_parts u8_info
  obtain ⟨w1, hm, hown, hg⟩ := run_make_own w0 (w.heap.size + 1) 131 5 i0 (.int .u8 0) 1 Tryz.underlying131 hi hz0 hz1 .i64 .i64 36 (by rw [hz2]; decide) (by decide) (by rw [hw0]; simp)
  have hz0' : w0.heap.size = w.heap.size + 1 := by rw [hw0]; simp
  have hb1 : Below w0.heap.size w0 w1 := (Below.refl _ _).grown hg (Nat.le_refl _) (fun k hk => by cases hk)
  rw [hz0'] at hm hown
  have HO0 : Hid (Own (w.heap.size + 1) (.slice (some ⟨w.heap.size + 1, 0, none⟩) 0 36) (txtU u 0) w1) := Lib.hid hown
  have HB0 := Lib.hid hb1
  have HW0 : Hid (Below w.heap.size w w0) := Lib.hid (by rw [hw0]; exact (Below.refl _ _).alloc (Nat.le_refl _) _)
  rw [show ((36 : Nat) : Int) = 36 from rfl] at hm
  rw [hw0] at hm
  clear hi hz0 hz1 hz2 hown hg hb1
  go_enter Tryz.func54, Tryz.ntmps54
  go_wp2_with fail
  clear hm
  clear hw0
  go_loopw [3, 4, 7] (fun v n i wr => ∃ (k : Nat) (ov : Value), v = ov ∧ k ≤ 36 ∧ i = .int .i64 k ∧ n = .int .i64 (ndU k : Nat) ∧ Hid (Own (w.heap.size + 1) ov (txtU u k) wr) ∧ Hid (Below w0.heap.size w0 wr)) (fun v n i wr => 36 - (intOf i).toNat)
  case atStart => exact ⟨0, _, rfl, Nat.zero_le _, rfl, rfl, HO0, HB0⟩
  case round =>
    rename World => wr
    obtain ⟨k, ov, rfl, hk, rfl, rfl, HO, HB⟩ := hrel
    have hzb : w0.heap.size ≤ wr.heap.size := HB.out.size
    by_cases hlk : k < 36
    · have hns := ndU_succ k hlk
      have hts := txtU_succ u k
      cases hd : dashU k with
      | true =>
        have hsh : ∀ h, (((⟨#[120, 120, 120, 120, 120, 120, 120, 120, 45, 120, 120, 120, 120, 45, 120, 120, 120, 120, 45, 120, 120, 120, 120, 45, 120, 120, 120, 120, 120, 120, 120, 120, 120, 120, 120, 120]⟩ : ByteArray)[k]'h).toNat : Int) = 45 := fun h => by rw [shape_at k h, if_pos hd]
        have hc : chrU u k = 45 := by unfold chrU; rw [if_pos hd]
        have HS : Hid (txtU u (k + 1) = txtU u k ++ [45] ∧ ndU (k + 1) = ndU k) := Lib.hid ⟨by rw [hts, hc], by rw [hns, if_pos hd]⟩
        clear hns hts hc hd
        have hlen := txtU_len u k
        obtain ⟨out, hout⟩ : ∃ l, txtU u k = l := ⟨_, rfl⟩
        rw [hout] at HO HS hlen
        obtain ⟨n, hn⟩ : ∃ n, ndU k = n := ⟨_, rfl⟩
        rw [hn] at HS ⊢
        have HOUT := Lib.hid hlen
        have hol : out.length ≤ 36 := by omega
        clear hout hn hlen
        go_wp2_with (at_builtin; refine wpList_push rfl _ _ rfl (w.heap.size + 1) _ out rfl (HO.out.alloc _) ⟨wr.heap.size, 0, none⟩ 1 [45] rfl (new_bytes wr _ [45]) ?c1 ?c2 ?_)
        case c1 => first | omega | (simp; omega)
        case c2 => first | omega | (simp; omega)
        intro v' w3 hown' hgrow
        have hbw3 : Below w0.heap.size w0 w3 := (HB.out.alloc hzb _).grown hgrow (by simp; omega) (by intro q hq; have := HO.out.lt q hq; omega)
        have HO3 := Lib.hid hown'
        have HB3 := Lib.hid hbw3
        clear hown' hgrow hbw3 HO
        go_wp2_with fail
        go_roundw
        case rel => exact ⟨k + 1, _, rfl, by omega, by go_num, by rw [HS.out.2], by rw [HS.out.1]; exact HO3, HB3⟩
        case measure => simp [intOf]; omega
      | false =>
        have hsh : ∀ h, (((⟨#[120, 120, 120, 120, 120, 120, 120, 120, 45, 120, 120, 120, 120, 45, 120, 120, 120, 120, 45, 120, 120, 120, 120, 45, 120, 120, 120, 120, 120, 120, 120, 120, 120, 120, 120, 120]⟩ : ByteArray)[k]'h).toNat : Int) = 120 := fun h => by rw [shape_at k h, if_neg (by rw [hd]; exact Bool.false_ne_true)]
        have hnl := ndU_lt k hlk hd
        have hc : chrU u k = hexU (nibU u (ndU k)) := by unfold chrU; rw [if_neg (by rw [hd]; exact Bool.false_ne_true)]
        have hlen := txtU_len u k
        obtain ⟨n, hn⟩ : ∃ n, ndU k = n := ⟨_, rfl⟩
        obtain ⟨c, hce⟩ : ∃ c : UInt8, hexU (nibU u (ndU k)) = c := ⟨_, rfl⟩
        have HS : Hid (txtU u (k + 1) = txtU u k ++ [c] ∧ ndU (k + 1) = n + 1) := Lib.hid ⟨by rw [hts, hc, hce], by rw [hns, if_neg (by rw [hd]; exact Bool.false_ne_true), hn]⟩
        obtain ⟨out, hout⟩ : ∃ l, txtU u k = l := ⟨_, rfl⟩
        rw [hout] at HO HS hlen
        rw [hn] at hnl hce ⊢
        have hol : out.length ≤ 36 := by omega
        obtain ⟨m, hm⟩ : ∃ m, n / 2 = m := ⟨_, rfl⟩
        have hm15 : m < 16 := by omega
        have hdiv : (n : Int) / 2 = (m : Int) := by omega
        obtain ⟨x, hx⟩ : ∃ x, u m = x := ⟨_, rfl⟩
        have hxb : x < 256 := by rw [← hx]; exact HU.out m
        have hcell : wr.cell? ⟨w.heap.size, m, none⟩ = some (.int .u8 (x : Int)) := by
          rw [Lib.cell_of_heap ((HB.out.block _ (by omega)).trans HBX.out), HX.out m hm15, hx]
        rcases Nat.mod_two_eq_zero_or_one n with hp | hp
        · have hnib : nibU u n = x / 16 := by unfold nibU; rw [if_pos hp, hm, hx]
          have hpar : (n : Int) % 2 = 0 := by omega
          obtain ⟨y, hy⟩ : ∃ y, x / 16 = y := ⟨_, rfl⟩
          have hyb : y < 16 := by omega
          have hyi : (x : Int) / 16 = (y : Int) := by omega
          have hand : bits BinOp.and IntKind.u8 (y : Int) 15 = (y : Int) := by rw [and15 y (by omega), Nat.mod_eq_of_lt hyb]
          have hch : ∀ h, ((⟨#[48, 49, 50, 51, 52, 53, 54, 55, 56, 57, 97, 98, 99, 100, 101, 102]⟩ : ByteArray)[y]'h) = c := fun h => by rw [hex_at y h, ← hce, hnib, hy]
          clear hns hts hc hd hlen hout hn hce hm hx hnib hy hp
          go_wp2_with (at_builtin; refine wpList_push rfl _ _ rfl (w.heap.size + 1) _ out rfl (HO.out.alloc _) ⟨wr.heap.size, 0, none⟩ 1 [c] rfl (new_bytes wr _ [c]) ?c1 ?c2 ?_)
          case c1 => first | omega | (simp; omega)
          case c2 => first | omega | (simp; omega)
          intro v' w3 hown' hgrow
          have hbw3 : Below w0.heap.size w0 w3 := (HB.out.alloc hzb _).grown hgrow (by simp; omega) (by intro q hq; have := HO.out.lt q hq; omega)
          have HO3 := Lib.hid hown'
          have HB3 := Lib.hid hbw3
          clear hown' hgrow hbw3 HO
          go_wp2_with fail
          go_roundw
          case rel => exact ⟨k + 1, _, rfl, by omega, by go_num, by rw [HS.out.2]; go_num, by rw [HS.out.1]; exact HO3, HB3⟩
          case measure => simp [intOf]; omega
        · have hnib : nibU u n = x % 16 := by unfold nibU; rw [if_neg (by omega), hm, hx]
          have hpar : (n : Int) % 2 = 1 := by omega
          obtain ⟨y, hy⟩ : ∃ y, x % 16 = y := ⟨_, rfl⟩
          have hyb : y < 16 := by omega
          have hand : bits BinOp.and IntKind.u8 (x : Int) 15 = (y : Int) := by rw [and15 x hxb, hy]
          have hch : ∀ h, ((⟨#[48, 49, 50, 51, 52, 53, 54, 55, 56, 57, 97, 98, 99, 100, 101, 102]⟩ : ByteArray)[y]'h) = c := fun h => by rw [hex_at y h, ← hce, hnib, hy]
          clear hns hts hc hd hlen hout hn hce hm hx hnib hy hp
          go_wp2_with (at_builtin; refine wpList_push rfl _ _ rfl (w.heap.size + 1) _ out rfl (HO.out.alloc _) ⟨wr.heap.size, 0, none⟩ 1 [c] rfl (new_bytes wr _ [c]) ?c1 ?c2 ?_)
          case c1 => first | omega | (simp; omega)
          case c2 => first | omega | (simp; omega)
          intro v' w3 hown' hgrow
          have hbw3 : Below w0.heap.size w0 w3 := (HB.out.alloc hzb _).grown hgrow (by simp; omega) (by intro q hq; have := HO.out.lt q hq; omega)
          have HO3 := Lib.hid hown'
          have HB3 := Lib.hid hbw3
          clear hown' hgrow hbw3 HO
          go_wp2_with fail
          go_roundw
          case rel => exact ⟨k + 1, _, rfl, by omega, by go_num, by rw [HS.out.2]; go_num, by rw [HS.out.1]; exact HO3, HB3⟩
          case measure => simp [intOf]; omega
    · obtain rfl : k = 36 := by omega
      have HE : Hid (Below w.heap.size w wr) := Lib.hid (HW0.out.trans (HB.out.mono (by omega)))
      obtain ⟨out, hout⟩ : ∃ l, txtU u 36 = l := ⟨_, rfl⟩
      rw [hout] at HO
      have hcv := run_convert_own HO.out
      have HF := Lib.hid hout
      clear hout
      go_wp2_with fail
      go_ret
      exact ⟨by rw [HF.out]; rfl, HE.out⟩
end Go.Proofs.YtjhgiojmlkeccaaGreatDoor
namespace Go.Proofs.YtjhgiojmlkeccaaGreatDoor
open Go.RowKit Go.Shelf
def hexL : List UInt8 := [48, 49, 50, 51, 52, 53, 54, 55, 56, 57, 97, 98, 99, 100, 101, 102]
def smallU (c : Nat) : Nat := if 65 ≤ c ∧ c ≤ 70 then c + 32 else c
/-- What a digit is worth; below 0: it is none. -/
def hvU (c : UInt8) : Int := Lib.indexByte hexL (UInt8.ofNat (smallU c.toNat))
def okU (l : List UInt8) (k : Nat) : Bool := if dashU k then l.getD k 0 == 45 else decide (0 ≤ hvU (l.getD k 0))
def posU (i : Nat) : Nat := i + (if 20 ≤ i then 4 else if 16 ≤ i then 3 else if 12 ≤ i then 2 else if 8 ≤ i then 1 else 0)
theorem posU_nd (k : Nat) (hk : k < 36) (hd : dashU k = false) : posU (ndU k) = k := by
  have : ∀ k : Fin 36, dashU k.1 = false → posU (ndU k.1) = k.1 := by decide +kernel
  exact this ⟨k, hk⟩ hd
def gU (l : List UInt8) (i : Nat) : Nat := (hvU (l.getD (posU i) 0)).toNat
def cellU (g : Nat → Nat) (n j : Nat) : Nat := if 2 * j + 1 < n then (16 * g (2 * j) + g (2 * j + 1)) % 256 else if 2 * j < n then g (2 * j) % 256 else 0
def rowU (g : Nat → Nat) (n : Nat) : Array Value := ((List.range 16).map fun j => Value.int .u8 (cellU g n j : Int)).toArray
def allU (l : List UInt8) : Bool := decide (l.length = 36) && (List.range 36).all (okU l)
theorem rowU_size (g : Nat → Nat) (n : Nat) : (rowU g n).size = 16 := by unfold rowU; simp
theorem rowU_at (g : Nat → Nat) (n j : Nat) (hj : j < 16) : (rowU g n)[j]? = some (.int .u8 (cellU g n j : Int)) := by
  unfold rowU; simp [hj]
theorem cellU_lt (g : Nat → Nat) (n j : Nat) : cellU g n j < 256 := by
  unfold cellU; split
  · omega
  · split <;> omega
theorem rowU_one (g : Nat → Nat) (n : Nat) : (rowU g n).all (·.oneCell') = true := by
  rw [Array.all_eq_true]
  intro i hi
  rw [rowU_size] at hi
  have := rowU_at g n i hi
  rw [Array.getElem?_eq_getElem (by rw [rowU_size]; exact hi)] at this
  rw [Option.some.inj this]
  rfl
theorem rowU_step (g : Nat → Nat) (n : Nat) (hn : n < 32) : (rowU g n).setIfInBounds (n / 2) (.int .u8 (cellU g (n + 1) (n / 2) : Int)) = rowU g (n + 1) := by
  apply Array.ext
  · rw [Array.size_setIfInBounds, rowU_size, rowU_size]
  · intro i h1 h2
    rw [rowU_size] at h2
    have e2 := rowU_at g (n + 1) i h2
    rw [Array.getElem?_eq_getElem (by rw [rowU_size]; exact h2)] at e2
    have e1 := rowU_at g n i h2
    rw [Array.getElem?_eq_getElem (by rw [rowU_size]; exact h2)] at e1
    rw [Option.some.inj e2, Array.getElem_setIfInBounds (by rw [rowU_size]; exact h2)]
    split
    · rename_i h; rw [h]
    · rename_i h
      rw [Option.some.inj e1]
      have : cellU g n i = cellU g (n + 1) i := by
        unfold cellU
        by_cases a : 2 * i + 1 < n
        · rw [if_pos a, if_pos (by omega)]
        · by_cases b : 2 * i < n
          · have : n = 2 * i + 1 := by omega
            omega
          · rw [if_neg a, if_neg b, if_neg (by omega), if_neg (by omega)]
      rw [this]
theorem or_nib (a d : Nat) (ha : a < 16) (hd : d < 16) : bits BinOp.or IntKind.u8 ((a : Int) * 16) (d : Int) = ((16 * a + d : Nat) : Int) := by
  have : ∀ a : Fin 16, ∀ d : Fin 16, bits BinOp.or IntKind.u8 ((a.1 : Int) * 16) (d.1 : Int) = ((16 * a.1 + d.1 : Nat) : Int) := by decide +kernel
  exact this ⟨a, ha⟩ ⟨d, hd⟩
theorem hv_lt (c : UInt8) : hvU c < 16 := by
  have : ∀ c : Fin 256, hvU (UInt8.ofNat c.1) < 16 := by decide +kernel
  have h := this ⟨c.toNat, UInt8.toNat_lt _⟩
  simpa using h
set_option maxRecDepth 100000 in
set_option maxHeartbeats 8000000 in
theorem small_any' (r : Int) (h0 : 0 ≤ r) (h1 : r ≤ 2147483647) (w : World) : Calls Tryz.prog 83 #[.int .i32 r] w fun e w' => e = .returned (.int .i32 (if 65 ≤ r ∧ r ≤ 70 then r + 32 else r)) ∧ w = w' := by
  by_cases a : 65 ≤ r
  · by_cases b : r ≤ 70
    · rw [if_pos ⟨a, b⟩]
      have hs : r + 97 - 65 = r + 32 := by omega
      go_enter Tryz.func83, Tryz.ntmps83
      go_wp2_with fail
      go_ret
      exact ⟨rfl, rfl⟩
    · rw [if_neg (fun h => b h.2)]
      have hb : decide (r ≤ 70) = false := by simpa using b
      go_enter Tryz.func83, Tryz.ntmps83
      go_wp2_with fail
      go_ret
      exact ⟨rfl, rfl⟩
  · rw [if_neg (fun h => a h.1)]
    have hb : decide (65 ≤ r) = false := by simpa using a
    go_enter Tryz.func83, Tryz.ntmps83
    go_wp2_with fail
    go_ret
    exact ⟨rfl, rfl⟩
set_option maxRecDepth 100000 in
set_option maxHeartbeats 8000000 in
theorem hexr_ascii (c : Nat) (hc : c < 128) (w : World) :
    Calls Tryz.prog 82 #[.string ⟨#[48, 49, 50, 51, 52, 53, 54, 55, 56, 57, 97, 98, 99, 100, 101, 102]⟩, .int .i32 (c : Int)] w fun e w' => e = .returned (.int .i64 (Lib.indexByte hexL (UInt8.ofNat c))) ∧ w = w' := by
  have HB : Hid (∀ W, Calls Tryz.prog 117 #[.string ⟨#[48, 49, 50, 51, 52, 53, 54, 55, 56, 57, 97, 98, 99, 100, 101, 102]⟩, .int .u8 (c : Int)] W fun e w' => e = .returned (.int .i64 (Lib.indexByte hexL (UInt8.ofNat c))) ∧ W = w') := Lib.hid fun W => by
    have := Tryz.strings_IndexByte ⟨#[48, 49, 50, 51, 52, 53, 54, 55, 56, 57, 97, 98, 99, 100, 101, 102]⟩ (c : Int) W
    rw [show ((c : Int)).toNat.toUInt8 = UInt8.ofNat c from rfl] at this
    exact this.mono fun e w' ⟨a, b⟩ => ⟨a, b.symm⟩
  have h0 : (0 : Int) ≤ (c : Int) := by omega
  have h1 : (c : Int) < 128 := by omega
  generalize Lib.indexByte hexL (UInt8.ofNat c) = q at *
  go_enter Tryz.func82, Tryz.ntmps82
  go_wp2_with fail
  refine (HB.out _).mono ?_; rintro e w1 ⟨rfl, rfl⟩
  go_wp2_with fail
  go_ret
  exact ⟨rfl, rfl⟩
end Go.Proofs.YtjhgiojmlkeccaaGreatDoor
namespace Go.Proofs.YtjhgiojmlkeccaaGreatDoor
open Go.RowKit Go.Shelf
theorem rowU_0 (g : Nat → Nat) : rowU g 0 = #[.int .u8 0, .int .u8 0, .int .u8 0, .int .u8 0, .int .u8 0, .int .u8 0, .int .u8 0, .int .u8 0, .int .u8 0, .int .u8 0, .int .u8 0, .int .u8 0, .int .u8 0, .int .u8 0, .int .u8 0, .int .u8 0] := by
  unfold rowU cellU; rfl
theorem hv_high (c : UInt8) (h : 128 ≤ c.toNat) : decide (0 ≤ hvU c) = false := by
  have : ∀ c : Fin 256, 128 ≤ c.1 → decide (0 ≤ hvU (UInt8.ofNat c.1)) = false := by decide +kernel
  have h1 := this ⟨c.toNat, UInt8.toNat_lt _⟩ h
  simpa using h1
/-- How the reading stands. -/
def USt (s : ByteArray) (rb ib : Nat) (g : Nat → Nat) (k n : Nat) (w W : World) : Prop := W.heap[rb]? = some (.cells (rowU g n) 89 (0, 0)) ∧ W.heap[ib]? = some (.stringIter s k) ∧ Below rb w W
theorem USt.below {s : ByteArray} {rb ib : Nat} {g : Nat → Nat} {k n : Nat} {w W W' : World} (h : USt s rb ib g k n w W) (hb : Below W.heap.size W W') : USt s rb ib g k n w W' :=
  ⟨(hb.block rb (heap_lt h.1)).trans h.1, (hb.block ib (heap_lt h.2.1)).trans h.2.1, h.2.2.trans (hb.mono (Nat.le_of_lt (heap_lt h.1)))⟩
theorem USt.next {s : ByteArray} {rb ib : Nat} {g : Nat → Nat} {k n : Nat} {w W : World} (h : USt s rb ib g k n w W) (hne : rb ≠ ib) (hle : rb ≤ ib) (j : Nat) : USt s rb ib g j n w (W.iterAt ib s j) :=
  ⟨(Lib.iterAt_other W ib rb s j hne).trans h.1, Lib.iterAt_heap W ib s k j h.2.1, Lib.below_iterAt h.2.2 hle s j⟩
theorem USt.set {s : ByteArray} {rb ib : Nat} {g : Nat → Nat} {k n : Nat} {w W : World} (h : USt s rb ib g k n w W) (hne : rb ≠ ib) (hn : n < 32) : USt s rb ib g k (n + 1) w (W.setCell ⟨rb, n / 2, none⟩ (.int .u8 (cellU g (n + 1) (n / 2) : Int))) :=
  ⟨on_pset h.1 _ (rowU_step g n hn), by rw [Below.heap_setCell _ _ _ _ (Ne.symm hne)]; exact h.2.1, h.2.2.setCell (p := ⟨rb, n / 2, none⟩) (Nat.le_refl rb) _⟩
set_option maxRecDepth 100000 in
set_option maxHeartbeats 8000000 in
theorem uparse_36 (l : List UInt8) (hl : l.length = 36) (v : Value) (w : World)
    (hno : allU l = false → Ending.returned (.tuple #[.agg #[.int .u8 0, .int .u8 0, .int .u8 0, .int .u8 0, .int .u8 0, .int .u8 0, .int .u8 0, .int .u8 0, .int .u8 0, .int .u8 0, .int .u8 0, .int .u8 0, .int .u8 0, .int .u8 0, .int .u8 0, .int .u8 0], .int .i64 130]) = .returned v) (hyes : allU l = true → Ending.returned (.tuple #[.agg (rowU (gU l) 32), .int .i64 0]) = .returned v) :
    Calls Tryz.prog 53 #[.string ⟨l.toArray⟩] w fun e w' => e = .returned v ∧ Below w.heap.size w w' := by
  have HNO0 := Lib.hid hno
  have HYES0 := Lib.hid hyes
  clear hno hyes
  obtain ⟨s, hs⟩ : ∃ s : ByteArray, (⟨l.toArray⟩ : ByteArray) = s := ⟨_, rfl⟩
  have hsz : s.size = 36 := by rw [← hs]; show l.toArray.size = 36; simp [hl]
  have hat : ∀ k (h : k < s.size), s[k]'h = l.getD k 0 := by
    subst hs
    intro k h
    have h' : k < l.length := by rw [hl]; rw [hsz] at h; exact h
    rw [List.getD_eq_getElem?_getD, List.getElem?_eq_getElem h']
    rfl
  have HAT := Lib.hid hat
  have HLL := Lib.hid hl
  obtain ⟨g, hg⟩ : ∃ g, gU l = g := ⟨_, rfl⟩
  rw [hg] at HYES0
  have HG := Lib.hid hg
  rw [hs]
  have HSZ := Lib.hid hsz
  have hsl : (s.size : Int) = 36 := by omega
  obtain ⟨w0, hw0⟩ : ∃ w0 : World, w0 = (w.alloc (.cells #[.int .u8 0, .int .u8 0, .int .u8 0, .int .u8 0, .int .u8 0, .int .u8 0, .int .u8 0, .int .u8 0, .int .u8 0, .int .u8 0, .int .u8 0, .int .u8 0, .int .u8 0, .int .u8 0, .int .u8 0, .int .u8 0] 89 (0, 0))).iter s 0 := ⟨_, rfl⟩
  have HU0 : Hid (USt s (w.heap.size) (w.heap.size + 1) g 0 0 w w0) := Lib.hid ⟨by rw [hw0, rowU_0]; unfold World.iter; exact heap_old (heap_new _ _ _ rfl), by rw [hw0]; unfold World.iter; exact heap_new _ _ _ (by simp), by rw [hw0]; unfold World.iter; exact ((Below.refl _ _).alloc (Nat.le_refl _) _).alloc (by simp) _⟩
  clear hs hsz hat hl hg
  go_enter Tryz.func53, Tryz.ntmps53
  go_wp2_with fail
  try rw [← hw0]
  clear hw0 hsl
  have hg16 : ∀ j, g j < 16 := fun j => by rw [← HG.out]; unfold gU; have := hv_lt (l.getD (posU j) 0); omega
  have HG16 := Lib.hid hg16
  clear hg16
  go_loopg [4] 36 (fun gk n wr => ∃ k : Nat, k + gk = 36 ∧ n = .int .i64 (ndU k : Nat) ∧ Hid (USt s (w.heap.size) (w.heap.size + 1) g k (ndU k) w wr) ∧ Hid (∀ j, j < k → okU l j = true))
  case atStart => exact ⟨0, by omega, rfl, HU0, Lib.hid (fun j hj => absurd hj (Nat.not_lt_zero j))⟩
  case round =>
    rename World => wr
    obtain ⟨k, hk, rfl, HU, HOK⟩ := hrel
    by_cases hlk : k < 36
    · have hki : k < s.size := by rw [HSZ.out]; exact hlk
      have hnx := fun ty => Lib.run_next_any_at (P := Tryz.prog) wr (w.heap.size + 1) s k ty HU.out.2.1 hki
      obtain ⟨c, hc⟩ : ∃ c, l.getD k 0 = c := ⟨_, rfl⟩
      have hsc : s[k]'hki = c := by rw [HAT.out k hki, hc]
      have hok : okU l k = if dashU k then c == 45 else decide (0 ≤ hvU c) := by unfold okU; rw [hc]
      have HBADL : Hid (okU l k = false → allU l = false) := Lib.hid (fun h => by
        unfold allU
        rw [Bool.and_eq_false_iff]
        refine Or.inr (Bool.eq_false_iff.2 fun ha => ?_)
        have := List.all_eq_true.1 ha k (List.mem_range.2 hlk)
        rw [h] at this; cases this)
      have hns := ndU_succ k hlk
      have HOK2 : Hid (okU l k = true → ∀ j, j < k + 1 → okU l j = true) := Lib.hid (fun h j hj => by
        rcases Nat.lt_or_ge j k with h' | h'
        · exact HOK.out j h'
        · rw [show j = k by omega]; exact h)
      have hnle : ndU k ≤ 36 := by unfold ndU; omega
      by_cases ha : c.toNat < 128
      · rw [decode_ascii s k hki (by rw [hsc]; exact ha)] at hnx
        simp only [hsc] at hnx
        have HU1 : Hid (USt s (w.heap.size) (w.heap.size + 1) g (k + 1) (ndU k) w (wr.iterAt (w.heap.size + 1) s (k + 1))) := Lib.hid (HU.out.next (by omega) (by omega) (k + 1))
        obtain ⟨sc, hscv⟩ : ∃ sc, smallU c.toNat = sc := ⟨_, rfl⟩
        have hsc128 : sc < 128 := by rw [← hscv]; unfold smallU; split <;> omega
        have HSM : Hid (∀ W, Calls Tryz.prog 83 #[.int .i32 (c.toNat : Int)] W fun e w' => e = .returned (.int .i32 (sc : Int)) ∧ W = w') := Lib.hid fun W => by
          have := small_any' (c.toNat : Int) (by omega) (by omega) W
          rw [show (if 65 ≤ (c.toNat : Int) ∧ (c.toNat : Int) ≤ 70 then (c.toNat : Int) + 32 else (c.toNat : Int)) = ((sc : Nat) : Int) by rw [← hscv]; unfold smallU; split <;> split <;> omega] at this
          exact this
        obtain ⟨q, hq⟩ : ∃ q, hvU c = q := ⟨_, rfl⟩
        have hq16 : q < 16 := by rw [← hq]; exact hv_lt c
        have HIR : Hid (∀ W, Calls Tryz.prog 82 #[.string ⟨#[48, 49, 50, 51, 52, 53, 54, 55, 56, 57, 97, 98, 99, 100, 101, 102]⟩, .int .i32 (sc : Int)] W fun e w' => e = .returned (.int .i64 q) ∧ W = w') := Lib.hid fun W => by
          have := hexr_ascii sc hsc128 W
          rw [show Lib.indexByte hexL (UInt8.ofNat sc) = q by rw [← hq]; unfold hvU; rw [hscv]] at this
          exact this
        obtain ⟨n, hn⟩ : ∃ n, ndU k = n := ⟨_, rfl⟩
        have hgn : dashU k = false → g n = q.toNat := fun h => by rw [← HG.out, ← hn]; unfold gU; rw [posU_nd k hlk h, hc, hq]
        have hpos : dashU k = false → posU n = k := fun h => by rw [← hn]; exact posU_nd k hlk h
        have hnl : dashU k = false → n ≤ 31 := fun h => by rw [← hn]; exact ndU_lt k hlk h
        rw [hn] at HU1 hns hnle ⊢
        obtain ⟨ci, hci⟩ : ∃ ci : Nat, c.toNat = ci := ⟨_, rfl⟩
        have h45 : (c == 45) = decide (ci = 45) := by
          rw [← hci, Bool.eq_iff_iff]; simp [← UInt8.toNat_inj]
        rw [hci] at hnx HSM ha
        rw [hq] at hok
        rw [h45] at hok
        clear hscv hq hsc hn hci h45 HU
        cases hd : dashU k with
        | true =>
          rw [hd, if_pos rfl] at hok hns
          have hsh : ∀ h, (((⟨#[120, 120, 120, 120, 120, 120, 120, 120, 45, 120, 120, 120, 120, 45, 120, 120, 120, 120, 45, 120, 120, 120, 120, 45, 120, 120, 120, 120, 120, 120, 120, 120, 120, 120, 120, 120]⟩ : ByteArray)[k]'h).toNat : Int) = 45 := fun h => by rw [shape_at k h, if_pos hd]
          clear hpos hnl hgn hd
          by_cases h5 : ci = 45
          · as_aux_lemma =>
              rw [decide_eq_true h5] at hok
              have HOK3 := Lib.hid (HOK2.out hok)
              have HNS := Lib.hid hns
              subst h5
              obtain ⟨gg, rfl⟩ : ∃ gg, gk = gg + 1 := ⟨gk - 1, by omega⟩
              clear hok hns hc
              go_wp2_with fail
              go_roundg gg
              case measure => omega
              case rel => exact ⟨k + 1, by omega, by rw [HNS.out], by rw [HNS.out]; exact HU1, HOK3⟩
          · as_aux_lemma =>
              rw [decide_eq_false h5] at hok
              have HNO := Lib.hid (HNO0.out (HBADL.out hok))
              have h5' : ((ci : Int) == 45) = false := by simp; omega
              clear hok hns hc h5
              go_wp2_with fail
              refine (HSM.out _).mono ?_; rintro e w5 ⟨rfl, rfl⟩
              go_wp2_with fail
              refine (HIR.out _).mono ?_; rintro e w5 ⟨rfl, rfl⟩
              have HU := HU1
              have HRB : Hid ((wr.iterAt (w.heap.size + 1) s (k + 1)).heap[w.heap.size]? = some (.cells (rowU g n) 89 (0, 0))) := Lib.hid HU.out.1
              have HBB : Hid (Below w.heap.size w (wr.iterAt (w.heap.size + 1) s (k + 1))) := Lib.hid HU.out.2.2
              go_wp2_with (refine wpList_store_row rfl 89 _ _ rfl w.heap.size #[.int .u8 0, .int .u8 0, .int .u8 0, .int .u8 0, .int .u8 0, .int .u8 0, .int .u8 0, .int .u8 0, .int .u8 0, .int .u8 0, .int .u8 0, .int .u8 0, .int .u8 0, .int .u8 0, .int .u8 0, .int .u8 0] rfl rfl 89 (rowU g n) HRB.out (by kernel_rfl) (rowU_size _ _) (by kernel_rfl) ?_)
              have HR := setRow_heap _ _ _ #[.int .u8 0, .int .u8 0, .int .u8 0, .int .u8 0, .int .u8 0, .int .u8 0, .int .u8 0, .int .u8 0, .int .u8 0, .int .u8 0, .int .u8 0, .int .u8 0, .int .u8 0, .int .u8 0, .int .u8 0, .int .u8 0] _ _ HRB.out
              obtain ⟨wf, hwf⟩ : ∃ wf : World, wf = World.setRow (wr.iterAt (w.heap.size + 1) s (k + 1)) w.heap.size #[.int .u8 0, .int .u8 0, .int .u8 0, .int .u8 0, .int .u8 0, .int .u8 0, .int .u8 0, .int .u8 0, .int .u8 0, .int .u8 0, .int .u8 0, .int .u8 0, .int .u8 0, .int .u8 0, .int .u8 0, .int .u8 0] := ⟨_, rfl⟩
              rw [← hwf] at HR
              rw [← hwf]
              have r0 : wf.cell? ⟨w.heap.size, 0, none⟩ = some (.int .u8 0) := (Lib.cell_of_heap HR 0).trans rfl
              have r1 : wf.cell? ⟨w.heap.size, 1, none⟩ = some (.int .u8 0) := (Lib.cell_of_heap HR 1).trans rfl
              have r2 : wf.cell? ⟨w.heap.size, 2, none⟩ = some (.int .u8 0) := (Lib.cell_of_heap HR 2).trans rfl
              have r3 : wf.cell? ⟨w.heap.size, 3, none⟩ = some (.int .u8 0) := (Lib.cell_of_heap HR 3).trans rfl
              have r4 : wf.cell? ⟨w.heap.size, 4, none⟩ = some (.int .u8 0) := (Lib.cell_of_heap HR 4).trans rfl
              have r5 : wf.cell? ⟨w.heap.size, 5, none⟩ = some (.int .u8 0) := (Lib.cell_of_heap HR 5).trans rfl
              have r6 : wf.cell? ⟨w.heap.size, 6, none⟩ = some (.int .u8 0) := (Lib.cell_of_heap HR 6).trans rfl
              have r7 : wf.cell? ⟨w.heap.size, 7, none⟩ = some (.int .u8 0) := (Lib.cell_of_heap HR 7).trans rfl
              have r8 : wf.cell? ⟨w.heap.size, 8, none⟩ = some (.int .u8 0) := (Lib.cell_of_heap HR 8).trans rfl
              have r9 : wf.cell? ⟨w.heap.size, 9, none⟩ = some (.int .u8 0) := (Lib.cell_of_heap HR 9).trans rfl
              have r10 : wf.cell? ⟨w.heap.size, 10, none⟩ = some (.int .u8 0) := (Lib.cell_of_heap HR 10).trans rfl
              have r11 : wf.cell? ⟨w.heap.size, 11, none⟩ = some (.int .u8 0) := (Lib.cell_of_heap HR 11).trans rfl
              have r12 : wf.cell? ⟨w.heap.size, 12, none⟩ = some (.int .u8 0) := (Lib.cell_of_heap HR 12).trans rfl
              have r13 : wf.cell? ⟨w.heap.size, 13, none⟩ = some (.int .u8 0) := (Lib.cell_of_heap HR 13).trans rfl
              have r14 : wf.cell? ⟨w.heap.size, 14, none⟩ = some (.int .u8 0) := (Lib.cell_of_heap HR 14).trans rfl
              have r15 : wf.cell? ⟨w.heap.size, 15, none⟩ = some (.int .u8 0) := (Lib.cell_of_heap HR 15).trans rfl
              refine bodyPost_ret (v := .tuple #[.agg #[.int .u8 0, .int .u8 0, .int .u8 0, .int .u8 0, .int .u8 0, .int .u8 0, .int .u8 0, .int .u8 0, .int .u8 0, .int .u8 0, .int .u8 0, .int .u8 0, .int .u8 0, .int .u8 0, .int .u8 0, .int .u8 0], .int .i64 130]) (by simp [results, Tryz.results53, go_sem, r0, r1, r2, r3, r4, r5, r6, r7, r8, r9, r10, r11, r12, r13, r14, r15]; try rfl) rfl ?_
              rw [hwf]
              exact ⟨HNO.out, below_setRow HBB.out (Nat.le_refl _) _⟩
        | false =>
          rw [hd, if_neg Bool.false_ne_true] at hok hns
          have hsh : ∀ h, (((⟨#[120, 120, 120, 120, 120, 120, 120, 120, 45, 120, 120, 120, 120, 45, 120, 120, 120, 120, 45, 120, 120, 120, 120, 45, 120, 120, 120, 120, 120, 120, 120, 120, 120, 120, 120, 120]⟩ : ByteArray)[k]'h).toNat : Int) = 120 := fun h => by rw [shape_at k h, if_neg (by rw [hd]; exact Bool.false_ne_true)]
          have hp := hpos hd
          have hn31 := hnl hd
          have hgd := hgn hd
          clear hpos hnl hgn hd
          by_cases hq0 : 0 ≤ q
          · as_aux_lemma =>
              rw [decide_eq_true hq0] at hok
              have HOK3 := Lib.hid (HOK2.out hok)
              have HNS := Lib.hid hns
              obtain ⟨d, rfl⟩ : ∃ d : Nat, q = d := ⟨q.toNat, by omega⟩
              have hd16 : d < 16 := by omega
              have hgd' : g n = d := by rw [hgd]; rfl
              obtain ⟨m, hm⟩ : ∃ m, n / 2 = m := ⟨_, rfl⟩
              have hm15 : m < 16 := by omega
              have hdiv : (n : Int) / 2 = (m : Int) := by omega
              obtain ⟨x, hx⟩ : ∃ x, cellU g n m = x := ⟨_, rfl⟩
              obtain ⟨y, hy⟩ : ∃ y, 16 * x + d = y := ⟨_, rfl⟩
              have hxy : x < 16 ∧ cellU g (n + 1) m = y := by
                rcases Nat.mod_two_eq_zero_or_one n with hp2 | hp2
                · have e : n = 2 * m := by omega
                  have h1 : cellU g n m = 0 := by unfold cellU; rw [if_neg (by omega), if_neg (by omega)]
                  have h2 : cellU g (n + 1) m = g (2 * m) % 256 := by unfold cellU; rw [if_neg (by omega), if_pos (by omega)]
                  rw [← e, hgd'] at h2
                  omega
                · have e : n = 2 * m + 1 := by omega
                  have h1 : cellU g n m = g (2 * m) % 256 := by unfold cellU; rw [if_neg (by omega), if_pos (by omega)]
                  have h2 : cellU g (n + 1) m = (16 * g (2 * m) + g (2 * m + 1)) % 256 := by unfold cellU; rw [if_pos (by omega)]
                  have h3 := HG16.out (2 * m)
                  rw [← e, hgd'] at h2
                  omega
              obtain ⟨hx16, hcy⟩ := hxy
              have hcell : (wr.iterAt (w.heap.size + 1) s (k + 1)).cell? ⟨w.heap.size, m, none⟩ = some (.int .u8 (x : Int)) := by
                rw [Lib.cell_of_heap HU1.out.1, rowU_at _ _ _ hm15, hx]
              have hfro : (wr.iterAt (w.heap.size + 1) s (k + 1)).frozen? ⟨w.heap.size, m, none⟩ = false := Lib.frozen_of_heap HU1.out.1 m
              have hwx : IntKind.u8.wrap ((x : Int) * 16) = (x : Int) * 16 := by rw [IntKind.wrap_u8]; omega
              have hor : bits BinOp.or IntKind.u8 ((x : Int) * 16) (d : Int) = (y : Int) := by rw [or_nib x d hx16 hd16, hy]
              have HU2 : Hid (USt s (w.heap.size) (w.heap.size + 1) g (k + 1) (n + 1) w ((wr.iterAt (w.heap.size + 1) s (k + 1)).setCell ⟨w.heap.size, m, none⟩ (.int .u8 (y : Int)))) := Lib.hid (by
                have := HU1.out.set (by omega) (show n < 32 by omega)
                rw [hm, hcy] at this
                exact this)
              have hq1 : decide ((d : Int) < 0) = false := by simp
              obtain ⟨gg, rfl⟩ : ∃ gg, gk = gg + 1 := ⟨gk - 1, by omega⟩
              clear hok hns hc hp hq0 hgd hgd' hx hy hcy hm
              go_wp2_with fail
              refine (HSM.out _).mono ?_; rintro e w5 ⟨rfl, rfl⟩
              go_wp2_with fail
              refine (HIR.out _).mono ?_; rintro e w5 ⟨rfl, rfl⟩
              go_wp2_with fail
              go_roundg gg
              case measure => omega
              case rel => exact ⟨k + 1, by omega, by rw [HNS.out]; go_num, by rw [HNS.out]; exact HU2, HOK3⟩
          · as_aux_lemma =>
              rw [decide_eq_false hq0] at hok
              have HNO := Lib.hid (HNO0.out (HBADL.out hok))
              have hq1 : decide (q < 0) = true := by simp; omega
              clear hok hns hc hp hq0 hgd
              go_wp2_with fail
              refine (HSM.out _).mono ?_; rintro e w5 ⟨rfl, rfl⟩
              go_wp2_with fail
              refine (HIR.out _).mono ?_; rintro e w5 ⟨rfl, rfl⟩
              have HU := HU1
              have HRB : Hid ((wr.iterAt (w.heap.size + 1) s (k + 1)).heap[w.heap.size]? = some (.cells (rowU g n) 89 (0, 0))) := Lib.hid HU.out.1
              have HBB : Hid (Below w.heap.size w (wr.iterAt (w.heap.size + 1) s (k + 1))) := Lib.hid HU.out.2.2
              go_wp2_with (refine wpList_store_row rfl 89 _ _ rfl w.heap.size #[.int .u8 0, .int .u8 0, .int .u8 0, .int .u8 0, .int .u8 0, .int .u8 0, .int .u8 0, .int .u8 0, .int .u8 0, .int .u8 0, .int .u8 0, .int .u8 0, .int .u8 0, .int .u8 0, .int .u8 0, .int .u8 0] rfl rfl 89 (rowU g n) HRB.out (by kernel_rfl) (rowU_size _ _) (by kernel_rfl) ?_)
              have HR := setRow_heap _ _ _ #[.int .u8 0, .int .u8 0, .int .u8 0, .int .u8 0, .int .u8 0, .int .u8 0, .int .u8 0, .int .u8 0, .int .u8 0, .int .u8 0, .int .u8 0, .int .u8 0, .int .u8 0, .int .u8 0, .int .u8 0, .int .u8 0] _ _ HRB.out
              obtain ⟨wf, hwf⟩ : ∃ wf : World, wf = World.setRow (wr.iterAt (w.heap.size + 1) s (k + 1)) w.heap.size #[.int .u8 0, .int .u8 0, .int .u8 0, .int .u8 0, .int .u8 0, .int .u8 0, .int .u8 0, .int .u8 0, .int .u8 0, .int .u8 0, .int .u8 0, .int .u8 0, .int .u8 0, .int .u8 0, .int .u8 0, .int .u8 0] := ⟨_, rfl⟩
              rw [← hwf] at HR
              rw [← hwf]
              have r0 : wf.cell? ⟨w.heap.size, 0, none⟩ = some (.int .u8 0) := (Lib.cell_of_heap HR 0).trans rfl
              have r1 : wf.cell? ⟨w.heap.size, 1, none⟩ = some (.int .u8 0) := (Lib.cell_of_heap HR 1).trans rfl
              have r2 : wf.cell? ⟨w.heap.size, 2, none⟩ = some (.int .u8 0) := (Lib.cell_of_heap HR 2).trans rfl
              have r3 : wf.cell? ⟨w.heap.size, 3, none⟩ = some (.int .u8 0) := (Lib.cell_of_heap HR 3).trans rfl
              have r4 : wf.cell? ⟨w.heap.size, 4, none⟩ = some (.int .u8 0) := (Lib.cell_of_heap HR 4).trans rfl
              have r5 : wf.cell? ⟨w.heap.size, 5, none⟩ = some (.int .u8 0) := (Lib.cell_of_heap HR 5).trans rfl
              have r6 : wf.cell? ⟨w.heap.size, 6, none⟩ = some (.int .u8 0) := (Lib.cell_of_heap HR 6).trans rfl
              have r7 : wf.cell? ⟨w.heap.size, 7, none⟩ = some (.int .u8 0) := (Lib.cell_of_heap HR 7).trans rfl
              have r8 : wf.cell? ⟨w.heap.size, 8, none⟩ = some (.int .u8 0) := (Lib.cell_of_heap HR 8).trans rfl
              have r9 : wf.cell? ⟨w.heap.size, 9, none⟩ = some (.int .u8 0) := (Lib.cell_of_heap HR 9).trans rfl
              have r10 : wf.cell? ⟨w.heap.size, 10, none⟩ = some (.int .u8 0) := (Lib.cell_of_heap HR 10).trans rfl
              have r11 : wf.cell? ⟨w.heap.size, 11, none⟩ = some (.int .u8 0) := (Lib.cell_of_heap HR 11).trans rfl
              have r12 : wf.cell? ⟨w.heap.size, 12, none⟩ = some (.int .u8 0) := (Lib.cell_of_heap HR 12).trans rfl
              have r13 : wf.cell? ⟨w.heap.size, 13, none⟩ = some (.int .u8 0) := (Lib.cell_of_heap HR 13).trans rfl
              have r14 : wf.cell? ⟨w.heap.size, 14, none⟩ = some (.int .u8 0) := (Lib.cell_of_heap HR 14).trans rfl
              have r15 : wf.cell? ⟨w.heap.size, 15, none⟩ = some (.int .u8 0) := (Lib.cell_of_heap HR 15).trans rfl
              refine bodyPost_ret (v := .tuple #[.agg #[.int .u8 0, .int .u8 0, .int .u8 0, .int .u8 0, .int .u8 0, .int .u8 0, .int .u8 0, .int .u8 0, .int .u8 0, .int .u8 0, .int .u8 0, .int .u8 0, .int .u8 0, .int .u8 0, .int .u8 0, .int .u8 0], .int .i64 130]) (by simp [results, Tryz.results53, go_sem, r0, r1, r2, r3, r4, r5, r6, r7, r8, r9, r10, r11, r12, r13, r14, r15]; try rfl) rfl ?_
              rw [hwf]
              exact ⟨HNO.out, below_setRow HBB.out (Nat.le_refl _) _⟩
      · as_aux_lemma =>
          have hhi := decode_high s k hki (by rw [hsc]; omega)
          have hle := decode_le s k
          have HU1 : Hid (USt s (w.heap.size) (w.heap.size + 1) g (k + (Utf8.decode s k).2) (ndU k) w (wr.iterAt (w.heap.size + 1) s (k + (Utf8.decode s k).2))) := Lib.hid (HU.out.next (by omega) (by omega) _)
          obtain ⟨hh1, hh2⟩ := hhi
          generalize (Utf8.decode s k).1 = r at *
          generalize (Utf8.decode s k).2 = p at *
          have hv := hv_high c (by omega)
          have hok2 : okU l k = false := by
            rw [hok]
            cases dashU k with
            | true =>
              rw [if_pos rfl]
              refine Bool.eq_false_iff.2 fun h => ?_
              have : c = 45 := by simpa using h
              rw [this] at ha; exact ha (by decide)
            | false => rw [if_neg Bool.false_ne_true]; exact hv
          have HNO := Lib.hid (HNO0.out (HBADL.out hok2))
          have HSM : Hid (∀ W, Calls Tryz.prog 83 #[.int .i32 (r : Int)] W fun e w' => e = .returned (.int .i32 (r : Int)) ∧ W = w') := Lib.hid fun W => by
            have := small_any' (r : Int) (by omega) (by omega) W
            rw [if_neg (by omega)] at this
            exact this
          have HIR := Lib.hid (fun W => hexr_none (r : Int) (by omega) (by omega) W)
          have h45 : ((r : Int) == 45) = false := by simp; omega
          obtain ⟨n, hn⟩ : ∃ n, ndU k = n := ⟨_, rfl⟩
          rw [hn] at HU1 ⊢
          clear hok hok2 hns hc hsc hv HU hn
          obtain ⟨dk, hdk⟩ : ∃ b, dashU k = b := ⟨_, rfl⟩
          have hsh : ∀ h, (((⟨#[120, 120, 120, 120, 120, 120, 120, 120, 45, 120, 120, 120, 120, 45, 120, 120, 120, 120, 45, 120, 120, 120, 120, 45, 120, 120, 120, 120, 120, 120, 120, 120, 120, 120, 120, 120]⟩ : ByteArray)[k]'h).toNat : Int) = if dk then 45 else 120 := fun h => by rw [shape_at k h, hdk]
          clear hdk
          cases dk with
          | true =>
            rw [if_pos rfl] at hsh
            go_wp2_with fail
            refine (HSM.out _).mono ?_; rintro e w4 ⟨rfl, rfl⟩
            go_wp2_with fail
            refine (HIR.out _).mono ?_; rintro e w5 ⟨rfl, hb⟩
            have HU := Lib.hid (HU1.out.below hb)
            clear hb
            have HRB : Hid (w5.heap[w.heap.size]? = some (.cells (rowU g n) 89 (0, 0))) := Lib.hid HU.out.1
            have HBB : Hid (Below w.heap.size w w5) := Lib.hid HU.out.2.2
            go_wp2_with (refine wpList_store_row rfl 89 _ _ rfl w.heap.size #[.int .u8 0, .int .u8 0, .int .u8 0, .int .u8 0, .int .u8 0, .int .u8 0, .int .u8 0, .int .u8 0, .int .u8 0, .int .u8 0, .int .u8 0, .int .u8 0, .int .u8 0, .int .u8 0, .int .u8 0, .int .u8 0] rfl rfl 89 (rowU g n) HRB.out (by kernel_rfl) (rowU_size _ _) (by kernel_rfl) ?_)
            have HR := setRow_heap _ _ _ #[.int .u8 0, .int .u8 0, .int .u8 0, .int .u8 0, .int .u8 0, .int .u8 0, .int .u8 0, .int .u8 0, .int .u8 0, .int .u8 0, .int .u8 0, .int .u8 0, .int .u8 0, .int .u8 0, .int .u8 0, .int .u8 0] _ _ HRB.out
            obtain ⟨wf, hwf⟩ : ∃ wf : World, wf = World.setRow w5 w.heap.size #[.int .u8 0, .int .u8 0, .int .u8 0, .int .u8 0, .int .u8 0, .int .u8 0, .int .u8 0, .int .u8 0, .int .u8 0, .int .u8 0, .int .u8 0, .int .u8 0, .int .u8 0, .int .u8 0, .int .u8 0, .int .u8 0] := ⟨_, rfl⟩
            rw [← hwf] at HR
            rw [← hwf]
            have r0 : wf.cell? ⟨w.heap.size, 0, none⟩ = some (.int .u8 0) := (Lib.cell_of_heap HR 0).trans rfl
            have r1 : wf.cell? ⟨w.heap.size, 1, none⟩ = some (.int .u8 0) := (Lib.cell_of_heap HR 1).trans rfl
            have r2 : wf.cell? ⟨w.heap.size, 2, none⟩ = some (.int .u8 0) := (Lib.cell_of_heap HR 2).trans rfl
            have r3 : wf.cell? ⟨w.heap.size, 3, none⟩ = some (.int .u8 0) := (Lib.cell_of_heap HR 3).trans rfl
            have r4 : wf.cell? ⟨w.heap.size, 4, none⟩ = some (.int .u8 0) := (Lib.cell_of_heap HR 4).trans rfl
            have r5 : wf.cell? ⟨w.heap.size, 5, none⟩ = some (.int .u8 0) := (Lib.cell_of_heap HR 5).trans rfl
            have r6 : wf.cell? ⟨w.heap.size, 6, none⟩ = some (.int .u8 0) := (Lib.cell_of_heap HR 6).trans rfl
            have r7 : wf.cell? ⟨w.heap.size, 7, none⟩ = some (.int .u8 0) := (Lib.cell_of_heap HR 7).trans rfl
            have r8 : wf.cell? ⟨w.heap.size, 8, none⟩ = some (.int .u8 0) := (Lib.cell_of_heap HR 8).trans rfl
            have r9 : wf.cell? ⟨w.heap.size, 9, none⟩ = some (.int .u8 0) := (Lib.cell_of_heap HR 9).trans rfl
            have r10 : wf.cell? ⟨w.heap.size, 10, none⟩ = some (.int .u8 0) := (Lib.cell_of_heap HR 10).trans rfl
            have r11 : wf.cell? ⟨w.heap.size, 11, none⟩ = some (.int .u8 0) := (Lib.cell_of_heap HR 11).trans rfl
            have r12 : wf.cell? ⟨w.heap.size, 12, none⟩ = some (.int .u8 0) := (Lib.cell_of_heap HR 12).trans rfl
            have r13 : wf.cell? ⟨w.heap.size, 13, none⟩ = some (.int .u8 0) := (Lib.cell_of_heap HR 13).trans rfl
            have r14 : wf.cell? ⟨w.heap.size, 14, none⟩ = some (.int .u8 0) := (Lib.cell_of_heap HR 14).trans rfl
            have r15 : wf.cell? ⟨w.heap.size, 15, none⟩ = some (.int .u8 0) := (Lib.cell_of_heap HR 15).trans rfl
            refine bodyPost_ret (v := .tuple #[.agg #[.int .u8 0, .int .u8 0, .int .u8 0, .int .u8 0, .int .u8 0, .int .u8 0, .int .u8 0, .int .u8 0, .int .u8 0, .int .u8 0, .int .u8 0, .int .u8 0, .int .u8 0, .int .u8 0, .int .u8 0, .int .u8 0], .int .i64 130]) (by simp [results, Tryz.results53, go_sem, r0, r1, r2, r3, r4, r5, r6, r7, r8, r9, r10, r11, r12, r13, r14, r15]; try rfl) rfl ?_
            rw [hwf]
            exact ⟨HNO.out, below_setRow HBB.out (Nat.le_refl _) _⟩
          | false =>
            rw [if_neg Bool.false_ne_true] at hsh
            go_wp2_with fail
            refine (HSM.out _).mono ?_; rintro e w4 ⟨rfl, rfl⟩
            go_wp2_with fail
            refine (HIR.out _).mono ?_; rintro e w5 ⟨rfl, hb⟩
            have HU := Lib.hid (HU1.out.below hb)
            clear hb
            have HRB : Hid (w5.heap[w.heap.size]? = some (.cells (rowU g n) 89 (0, 0))) := Lib.hid HU.out.1
            have HBB : Hid (Below w.heap.size w w5) := Lib.hid HU.out.2.2
            go_wp2_with (refine wpList_store_row rfl 89 _ _ rfl w.heap.size #[.int .u8 0, .int .u8 0, .int .u8 0, .int .u8 0, .int .u8 0, .int .u8 0, .int .u8 0, .int .u8 0, .int .u8 0, .int .u8 0, .int .u8 0, .int .u8 0, .int .u8 0, .int .u8 0, .int .u8 0, .int .u8 0] rfl rfl 89 (rowU g n) HRB.out (by kernel_rfl) (rowU_size _ _) (by kernel_rfl) ?_)
            have HR := setRow_heap _ _ _ #[.int .u8 0, .int .u8 0, .int .u8 0, .int .u8 0, .int .u8 0, .int .u8 0, .int .u8 0, .int .u8 0, .int .u8 0, .int .u8 0, .int .u8 0, .int .u8 0, .int .u8 0, .int .u8 0, .int .u8 0, .int .u8 0] _ _ HRB.out
            obtain ⟨wf, hwf⟩ : ∃ wf : World, wf = World.setRow w5 w.heap.size #[.int .u8 0, .int .u8 0, .int .u8 0, .int .u8 0, .int .u8 0, .int .u8 0, .int .u8 0, .int .u8 0, .int .u8 0, .int .u8 0, .int .u8 0, .int .u8 0, .int .u8 0, .int .u8 0, .int .u8 0, .int .u8 0] := ⟨_, rfl⟩
            rw [← hwf] at HR
            rw [← hwf]
            have r0 : wf.cell? ⟨w.heap.size, 0, none⟩ = some (.int .u8 0) := (Lib.cell_of_heap HR 0).trans rfl
            have r1 : wf.cell? ⟨w.heap.size, 1, none⟩ = some (.int .u8 0) := (Lib.cell_of_heap HR 1).trans rfl
            have r2 : wf.cell? ⟨w.heap.size, 2, none⟩ = some (.int .u8 0) := (Lib.cell_of_heap HR 2).trans rfl
            have r3 : wf.cell? ⟨w.heap.size, 3, none⟩ = some (.int .u8 0) := (Lib.cell_of_heap HR 3).trans rfl
            have r4 : wf.cell? ⟨w.heap.size, 4, none⟩ = some (.int .u8 0) := (Lib.cell_of_heap HR 4).trans rfl
            have r5 : wf.cell? ⟨w.heap.size, 5, none⟩ = some (.int .u8 0) := (Lib.cell_of_heap HR 5).trans rfl
            have r6 : wf.cell? ⟨w.heap.size, 6, none⟩ = some (.int .u8 0) := (Lib.cell_of_heap HR 6).trans rfl
            have r7 : wf.cell? ⟨w.heap.size, 7, none⟩ = some (.int .u8 0) := (Lib.cell_of_heap HR 7).trans rfl
            have r8 : wf.cell? ⟨w.heap.size, 8, none⟩ = some (.int .u8 0) := (Lib.cell_of_heap HR 8).trans rfl
            have r9 : wf.cell? ⟨w.heap.size, 9, none⟩ = some (.int .u8 0) := (Lib.cell_of_heap HR 9).trans rfl
            have r10 : wf.cell? ⟨w.heap.size, 10, none⟩ = some (.int .u8 0) := (Lib.cell_of_heap HR 10).trans rfl
            have r11 : wf.cell? ⟨w.heap.size, 11, none⟩ = some (.int .u8 0) := (Lib.cell_of_heap HR 11).trans rfl
            have r12 : wf.cell? ⟨w.heap.size, 12, none⟩ = some (.int .u8 0) := (Lib.cell_of_heap HR 12).trans rfl
            have r13 : wf.cell? ⟨w.heap.size, 13, none⟩ = some (.int .u8 0) := (Lib.cell_of_heap HR 13).trans rfl
            have r14 : wf.cell? ⟨w.heap.size, 14, none⟩ = some (.int .u8 0) := (Lib.cell_of_heap HR 14).trans rfl
            have r15 : wf.cell? ⟨w.heap.size, 15, none⟩ = some (.int .u8 0) := (Lib.cell_of_heap HR 15).trans rfl
            refine bodyPost_ret (v := .tuple #[.agg #[.int .u8 0, .int .u8 0, .int .u8 0, .int .u8 0, .int .u8 0, .int .u8 0, .int .u8 0, .int .u8 0, .int .u8 0, .int .u8 0, .int .u8 0, .int .u8 0, .int .u8 0, .int .u8 0, .int .u8 0, .int .u8 0], .int .i64 130]) (by simp [results, Tryz.results53, go_sem, r0, r1, r2, r3, r4, r5, r6, r7, r8, r9, r10, r11, r12, r13, r14, r15]; try rfl) rfl ?_
            rw [hwf]
            exact ⟨HNO.out, below_setRow HBB.out (Nat.le_refl _) _⟩
    · as_aux_lemma =>
        obtain rfl : k = 36 := by omega
        have hall : allU l = true := by
          unfold allU
          rw [HLL.out]
          simp only [decide_true, Bool.true_and]
          rw [List.all_eq_true]
          intro j hj
          exact HOK.out j (List.mem_range.1 hj)
        have HYES := Lib.hid (HYES0.out hall)
        have hnx := fun ty => Lib.run_next_end_at (P := Tryz.prog) wr (w.heap.size + 1) s 36 ty HU.out.2.1 (by rw [HSZ.out]; omega)
        have HRB : Hid (wr.heap[w.heap.size]? = some (.cells (rowU g 32) 89 (0, 0))) := Lib.hid HU.out.1
        have HBB : Hid (Below w.heap.size w wr) := Lib.hid HU.out.2.2
        have hsz16 : (Tryz.prog.info? 89).map (·.size) = some (rowU g 32).size := by rw [rowU_size]; kernel_rfl
        have HS16 := Lib.hid hsz16
        clear hall HU hsz16
        go_wp2_with (first | (refine wpList_load_row rfl 89 _ rfl w.heap.size rfl 89 (rowU g 32) (0, 0) _ HRB.out Tryz.underlying89 rfl HS16.out ?_) | (refine wpList_store_row rfl 89 _ _ rfl w.heap.size (rowU g 32) rfl rfl 89 (rowU g 32) HRB.out HS16.out rfl (rowU_one _ _) ?_))
        have HR := setRow_heap _ _ _ (rowU g 32) _ _ HRB.out
        obtain ⟨wf, hwf⟩ : ∃ wf : World, wf = World.setRow wr w.heap.size (rowU g 32) := ⟨_, rfl⟩
        rw [← hwf] at HR
        rw [← hwf]
        have r0 : wf.cell? ⟨w.heap.size, 0, none⟩ = some (.int .u8 (cellU g 32 0 : Int)) := (Lib.cell_of_heap HR 0).trans (rowU_at _ _ _ (by omega))
        have r1 : wf.cell? ⟨w.heap.size, 1, none⟩ = some (.int .u8 (cellU g 32 1 : Int)) := (Lib.cell_of_heap HR 1).trans (rowU_at _ _ _ (by omega))
        have r2 : wf.cell? ⟨w.heap.size, 2, none⟩ = some (.int .u8 (cellU g 32 2 : Int)) := (Lib.cell_of_heap HR 2).trans (rowU_at _ _ _ (by omega))
        have r3 : wf.cell? ⟨w.heap.size, 3, none⟩ = some (.int .u8 (cellU g 32 3 : Int)) := (Lib.cell_of_heap HR 3).trans (rowU_at _ _ _ (by omega))
        have r4 : wf.cell? ⟨w.heap.size, 4, none⟩ = some (.int .u8 (cellU g 32 4 : Int)) := (Lib.cell_of_heap HR 4).trans (rowU_at _ _ _ (by omega))
        have r5 : wf.cell? ⟨w.heap.size, 5, none⟩ = some (.int .u8 (cellU g 32 5 : Int)) := (Lib.cell_of_heap HR 5).trans (rowU_at _ _ _ (by omega))
        have r6 : wf.cell? ⟨w.heap.size, 6, none⟩ = some (.int .u8 (cellU g 32 6 : Int)) := (Lib.cell_of_heap HR 6).trans (rowU_at _ _ _ (by omega))
        have r7 : wf.cell? ⟨w.heap.size, 7, none⟩ = some (.int .u8 (cellU g 32 7 : Int)) := (Lib.cell_of_heap HR 7).trans (rowU_at _ _ _ (by omega))
        have r8 : wf.cell? ⟨w.heap.size, 8, none⟩ = some (.int .u8 (cellU g 32 8 : Int)) := (Lib.cell_of_heap HR 8).trans (rowU_at _ _ _ (by omega))
        have r9 : wf.cell? ⟨w.heap.size, 9, none⟩ = some (.int .u8 (cellU g 32 9 : Int)) := (Lib.cell_of_heap HR 9).trans (rowU_at _ _ _ (by omega))
        have r10 : wf.cell? ⟨w.heap.size, 10, none⟩ = some (.int .u8 (cellU g 32 10 : Int)) := (Lib.cell_of_heap HR 10).trans (rowU_at _ _ _ (by omega))
        have r11 : wf.cell? ⟨w.heap.size, 11, none⟩ = some (.int .u8 (cellU g 32 11 : Int)) := (Lib.cell_of_heap HR 11).trans (rowU_at _ _ _ (by omega))
        have r12 : wf.cell? ⟨w.heap.size, 12, none⟩ = some (.int .u8 (cellU g 32 12 : Int)) := (Lib.cell_of_heap HR 12).trans (rowU_at _ _ _ (by omega))
        have r13 : wf.cell? ⟨w.heap.size, 13, none⟩ = some (.int .u8 (cellU g 32 13 : Int)) := (Lib.cell_of_heap HR 13).trans (rowU_at _ _ _ (by omega))
        have r14 : wf.cell? ⟨w.heap.size, 14, none⟩ = some (.int .u8 (cellU g 32 14 : Int)) := (Lib.cell_of_heap HR 14).trans (rowU_at _ _ _ (by omega))
        have r15 : wf.cell? ⟨w.heap.size, 15, none⟩ = some (.int .u8 (cellU g 32 15 : Int)) := (Lib.cell_of_heap HR 15).trans (rowU_at _ _ _ (by omega))
        refine bodyPost_ret (v := .tuple #[.agg #[.int .u8 (cellU g 32 0 : Int), .int .u8 (cellU g 32 1 : Int), .int .u8 (cellU g 32 2 : Int), .int .u8 (cellU g 32 3 : Int), .int .u8 (cellU g 32 4 : Int), .int .u8 (cellU g 32 5 : Int), .int .u8 (cellU g 32 6 : Int), .int .u8 (cellU g 32 7 : Int), .int .u8 (cellU g 32 8 : Int), .int .u8 (cellU g 32 9 : Int), .int .u8 (cellU g 32 10 : Int), .int .u8 (cellU g 32 11 : Int), .int .u8 (cellU g 32 12 : Int), .int .u8 (cellU g 32 13 : Int), .int .u8 (cellU g 32 14 : Int), .int .u8 (cellU g 32 15 : Int)], .int .i64 0]) (by simp [results, Tryz.results53, go_sem, r0, r1, r2, r3, r4, r5, r6, r7, r8, r9, r10, r11, r12, r13, r14, r15]; try rfl) rfl ?_
        rw [hwf]
        exact ⟨(by rw [← HYES.out]; rfl), below_setRow HBB.out (Nat.le_refl _) _⟩
end Go.Proofs.YtjhgiojmlkeccaaGreatDoor
namespace Go.Proofs.YtjhgiojmlkeccaaGreatDoor
open Go.RowKit Go.Shelf
set_option maxRecDepth 100000 in
set_option maxHeartbeats 8000000 in
theorem uparse_no (s : ByteArray) (hs : s.size ≠ 36) (hm : s.size ≤ 1000000) (w : World) :
    Calls Tryz.prog 53 #[.string s] w fun e w' => e = .returned (.tuple #[.agg #[.int .u8 0, .int .u8 0, .int .u8 0, .int .u8 0, .int .u8 0, .int .u8 0, .int .u8 0, .int .u8 0, .int .u8 0, .int .u8 0, .int .u8 0, .int .u8 0, .int .u8 0, .int .u8 0, .int .u8 0, .int .u8 0], .int .i64 130]) ∧ Below w.heap.size w w' := by
  have ht : ((s.size : Int) != 36) = true := by simp; omega
  have HRB : Hid ((w.alloc (.cells #[.int .u8 0, .int .u8 0, .int .u8 0, .int .u8 0, .int .u8 0, .int .u8 0, .int .u8 0, .int .u8 0, .int .u8 0, .int .u8 0, .int .u8 0, .int .u8 0, .int .u8 0, .int .u8 0, .int .u8 0, .int .u8 0] 89 (0, 0))).heap[w.heap.size]? = some (.cells #[.int .u8 0, .int .u8 0, .int .u8 0, .int .u8 0, .int .u8 0, .int .u8 0, .int .u8 0, .int .u8 0, .int .u8 0, .int .u8 0, .int .u8 0, .int .u8 0, .int .u8 0, .int .u8 0, .int .u8 0, .int .u8 0] 89 (0, 0))) := Lib.hid (heap_new _ _ _ rfl)
  have HBB : Hid (Below w.heap.size w (w.alloc (.cells #[.int .u8 0, .int .u8 0, .int .u8 0, .int .u8 0, .int .u8 0, .int .u8 0, .int .u8 0, .int .u8 0, .int .u8 0, .int .u8 0, .int .u8 0, .int .u8 0, .int .u8 0, .int .u8 0, .int .u8 0, .int .u8 0] 89 (0, 0)))) := Lib.hid ((Below.refl _ _).alloc (Nat.le_refl _) _)
  go_enter Tryz.func53, Tryz.ntmps53
  go_wp2_with (first | (refine wpList_load_row rfl 89 _ rfl w.heap.size rfl 89 #[.int .u8 0, .int .u8 0, .int .u8 0, .int .u8 0, .int .u8 0, .int .u8 0, .int .u8 0, .int .u8 0, .int .u8 0, .int .u8 0, .int .u8 0, .int .u8 0, .int .u8 0, .int .u8 0, .int .u8 0, .int .u8 0] (0, 0) _ HRB.out Tryz.underlying89 rfl (by kernel_rfl) ?_) | (refine wpList_store_row rfl 89 _ _ rfl w.heap.size #[.int .u8 0, .int .u8 0, .int .u8 0, .int .u8 0, .int .u8 0, .int .u8 0, .int .u8 0, .int .u8 0, .int .u8 0, .int .u8 0, .int .u8 0, .int .u8 0, .int .u8 0, .int .u8 0, .int .u8 0, .int .u8 0] rfl rfl 89 #[.int .u8 0, .int .u8 0, .int .u8 0, .int .u8 0, .int .u8 0, .int .u8 0, .int .u8 0, .int .u8 0, .int .u8 0, .int .u8 0, .int .u8 0, .int .u8 0, .int .u8 0, .int .u8 0, .int .u8 0, .int .u8 0] HRB.out (by kernel_rfl) rfl (by kernel_rfl) ?_))
  have HR := setRow_heap _ _ _ #[.int .u8 0, .int .u8 0, .int .u8 0, .int .u8 0, .int .u8 0, .int .u8 0, .int .u8 0, .int .u8 0, .int .u8 0, .int .u8 0, .int .u8 0, .int .u8 0, .int .u8 0, .int .u8 0, .int .u8 0, .int .u8 0] _ _ HRB.out
  obtain ⟨wf, hwf⟩ : ∃ wf : World, wf = World.setRow (w.alloc (.cells #[.int .u8 0, .int .u8 0, .int .u8 0, .int .u8 0, .int .u8 0, .int .u8 0, .int .u8 0, .int .u8 0, .int .u8 0, .int .u8 0, .int .u8 0, .int .u8 0, .int .u8 0, .int .u8 0, .int .u8 0, .int .u8 0] 89 (0, 0))) w.heap.size #[.int .u8 0, .int .u8 0, .int .u8 0, .int .u8 0, .int .u8 0, .int .u8 0, .int .u8 0, .int .u8 0, .int .u8 0, .int .u8 0, .int .u8 0, .int .u8 0, .int .u8 0, .int .u8 0, .int .u8 0, .int .u8 0] := ⟨_, rfl⟩
  rw [← hwf] at HR
  rw [← hwf]
  have r0 : wf.cell? ⟨w.heap.size, 0, none⟩ = some (.int .u8 0) := (Lib.cell_of_heap HR 0).trans rfl
  have r1 : wf.cell? ⟨w.heap.size, 1, none⟩ = some (.int .u8 0) := (Lib.cell_of_heap HR 1).trans rfl
  have r2 : wf.cell? ⟨w.heap.size, 2, none⟩ = some (.int .u8 0) := (Lib.cell_of_heap HR 2).trans rfl
  have r3 : wf.cell? ⟨w.heap.size, 3, none⟩ = some (.int .u8 0) := (Lib.cell_of_heap HR 3).trans rfl
  have r4 : wf.cell? ⟨w.heap.size, 4, none⟩ = some (.int .u8 0) := (Lib.cell_of_heap HR 4).trans rfl
  have r5 : wf.cell? ⟨w.heap.size, 5, none⟩ = some (.int .u8 0) := (Lib.cell_of_heap HR 5).trans rfl
  have r6 : wf.cell? ⟨w.heap.size, 6, none⟩ = some (.int .u8 0) := (Lib.cell_of_heap HR 6).trans rfl
  have r7 : wf.cell? ⟨w.heap.size, 7, none⟩ = some (.int .u8 0) := (Lib.cell_of_heap HR 7).trans rfl
  have r8 : wf.cell? ⟨w.heap.size, 8, none⟩ = some (.int .u8 0) := (Lib.cell_of_heap HR 8).trans rfl
  have r9 : wf.cell? ⟨w.heap.size, 9, none⟩ = some (.int .u8 0) := (Lib.cell_of_heap HR 9).trans rfl
  have r10 : wf.cell? ⟨w.heap.size, 10, none⟩ = some (.int .u8 0) := (Lib.cell_of_heap HR 10).trans rfl
  have r11 : wf.cell? ⟨w.heap.size, 11, none⟩ = some (.int .u8 0) := (Lib.cell_of_heap HR 11).trans rfl
  have r12 : wf.cell? ⟨w.heap.size, 12, none⟩ = some (.int .u8 0) := (Lib.cell_of_heap HR 12).trans rfl
  have r13 : wf.cell? ⟨w.heap.size, 13, none⟩ = some (.int .u8 0) := (Lib.cell_of_heap HR 13).trans rfl
  have r14 : wf.cell? ⟨w.heap.size, 14, none⟩ = some (.int .u8 0) := (Lib.cell_of_heap HR 14).trans rfl
  have r15 : wf.cell? ⟨w.heap.size, 15, none⟩ = some (.int .u8 0) := (Lib.cell_of_heap HR 15).trans rfl
  refine bodyPost_ret (v := .tuple #[.agg #[.int .u8 0, .int .u8 0, .int .u8 0, .int .u8 0, .int .u8 0, .int .u8 0, .int .u8 0, .int .u8 0, .int .u8 0, .int .u8 0, .int .u8 0, .int .u8 0, .int .u8 0, .int .u8 0, .int .u8 0, .int .u8 0], .int .i64 130]) (by simp [results, Tryz.results53, go_sem, r0, r1, r2, r3, r4, r5, r6, r7, r8, r9, r10, r11, r12, r13, r14, r15]; try rfl) rfl ?_
  rw [hwf]
  exact ⟨rfl, below_setRow HBB.out (Nat.le_refl _) _⟩
theorem uparse_any (l : List UInt8) (hl : l.length ≤ 1000000) (w : World) :
    Calls Tryz.prog 53 #[.string ⟨l.toArray⟩] w fun e w' => e = .returned (if allU l then .tuple #[.agg (rowU (gU l) 32), .int .i64 0] else .tuple #[.agg #[.int .u8 0, .int .u8 0, .int .u8 0, .int .u8 0, .int .u8 0, .int .u8 0, .int .u8 0, .int .u8 0, .int .u8 0, .int .u8 0, .int .u8 0, .int .u8 0, .int .u8 0, .int .u8 0, .int .u8 0, .int .u8 0], .int .i64 130]) ∧ Below w.heap.size w w' := by
  by_cases h : l.length = 36
  · exact uparse_36 l h _ w (fun ha => by rw [ha]; rfl) (fun ha => by rw [ha]; rfl)
  · have ha : allU l = false := by unfold allU; rw [decide_eq_false h]; rfl
    rw [ha]
    have hsz : (⟨l.toArray⟩ : ByteArray).size = l.length := by show l.toArray.size = _; simp
    exact uparse_no ⟨l.toArray⟩ (by rw [hsz]; exact h) (by rw [hsz]; exact hl) w
set_option maxRecDepth 100000 in
set_option maxHeartbeats 8000000 in
theorem ucanon_no (s : ByteArray) (w : World) (HP : Hid (DoesU w 53 #[.string s] (.tuple #[.agg #[.int .u8 0, .int .u8 0, .int .u8 0, .int .u8 0, .int .u8 0, .int .u8 0, .int .u8 0, .int .u8 0, .int .u8 0, .int .u8 0, .int .u8 0, .int .u8 0, .int .u8 0, .int .u8 0, .int .u8 0, .int .u8 0], .int .i64 130]))) :
    Calls Tryz.prog 35 #[.string s] w fun e w' => e = .returned (.tuple #[.string ⟨#[]⟩, .int .i64 130]) ∧ Below w.heap.size w w' := by
  go_enter Tryz.func35, Tryz.ntmps35
  go_wp2_with fail
  refine (HP.out _ (Below.refl _ _)).mono ?_; rintro e w1 ⟨rfl, hb⟩
  have HN : Hid ((w1.alloc (.cells #[.int .u8 0, .int .u8 0, .int .u8 0, .int .u8 0, .int .u8 0, .int .u8 0, .int .u8 0, .int .u8 0, .int .u8 0, .int .u8 0, .int .u8 0, .int .u8 0, .int .u8 0, .int .u8 0, .int .u8 0, .int .u8 0] 89 (0, 0))).heap[w1.heap.size]? = some (.cells #[.int .u8 0, .int .u8 0, .int .u8 0, .int .u8 0, .int .u8 0, .int .u8 0, .int .u8 0, .int .u8 0, .int .u8 0, .int .u8 0, .int .u8 0, .int .u8 0, .int .u8 0, .int .u8 0, .int .u8 0, .int .u8 0] 89 (0, 0))) := Lib.hid (heap_new _ _ _ rfl)
  have HB : Hid (Below w.heap.size w (w1.alloc (.cells #[.int .u8 0, .int .u8 0, .int .u8 0, .int .u8 0, .int .u8 0, .int .u8 0, .int .u8 0, .int .u8 0, .int .u8 0, .int .u8 0, .int .u8 0, .int .u8 0, .int .u8 0, .int .u8 0, .int .u8 0, .int .u8 0] 89 (0, 0)))) := Lib.hid (hb.trans ((Below.refl _ _).alloc hb.size _))
  have HS := Lib.hid hb.size
  clear hb
  go_wp2_with (refine wpList_store_row rfl 89 _ _ rfl w1.heap.size #[.int .u8 0, .int .u8 0, .int .u8 0, .int .u8 0, .int .u8 0, .int .u8 0, .int .u8 0, .int .u8 0, .int .u8 0, .int .u8 0, .int .u8 0, .int .u8 0, .int .u8 0, .int .u8 0, .int .u8 0, .int .u8 0] rfl rfl 89 #[.int .u8 0, .int .u8 0, .int .u8 0, .int .u8 0, .int .u8 0, .int .u8 0, .int .u8 0, .int .u8 0, .int .u8 0, .int .u8 0, .int .u8 0, .int .u8 0, .int .u8 0, .int .u8 0, .int .u8 0, .int .u8 0] HN.out (by kernel_rfl) rfl (by kernel_rfl) ?_)
  go_ret2
  exact ⟨rfl, below_setRow HB.out HS.out _⟩
set_option maxRecDepth 100000 in
set_option maxHeartbeats 8000000 in
theorem ucanon_go (s t : ByteArray) (X : Array Value) (hX : X.size = 16) (h1 : X.all (·.oneCell') = true) (w : World) (HP : Hid (DoesU w 53 #[.string s] (.tuple #[.agg X, .int .i64 0]))) (HT : Hid (DoesU w 54 #[.agg X] (.string t))) :
    Calls Tryz.prog 35 #[.string s] w fun e w' => e = .returned (.tuple #[.string t, .int .i64 0]) ∧ Below w.heap.size w w' := by
  have hs16 : (Tryz.prog.info? 89).map (·.size) = some X.size := by rw [hX]; kernel_rfl
  have HS16 := Lib.hid (And.intro hs16 (And.intro hX h1))
  clear hs16 hX h1
  go_enter Tryz.func35, Tryz.ntmps35
  go_wp2_with fail
  refine (HP.out _ (Below.refl _ _)).mono ?_; rintro e w1 ⟨rfl, hb⟩
  have HN : Hid ((w1.alloc (.cells #[.int .u8 0, .int .u8 0, .int .u8 0, .int .u8 0, .int .u8 0, .int .u8 0, .int .u8 0, .int .u8 0, .int .u8 0, .int .u8 0, .int .u8 0, .int .u8 0, .int .u8 0, .int .u8 0, .int .u8 0, .int .u8 0] 89 (0, 0))).heap[w1.heap.size]? = some (.cells #[.int .u8 0, .int .u8 0, .int .u8 0, .int .u8 0, .int .u8 0, .int .u8 0, .int .u8 0, .int .u8 0, .int .u8 0, .int .u8 0, .int .u8 0, .int .u8 0, .int .u8 0, .int .u8 0, .int .u8 0, .int .u8 0] 89 (0, 0))) := Lib.hid (heap_new _ _ _ rfl)
  have HB : Hid (Below w.heap.size w (w1.alloc (.cells #[.int .u8 0, .int .u8 0, .int .u8 0, .int .u8 0, .int .u8 0, .int .u8 0, .int .u8 0, .int .u8 0, .int .u8 0, .int .u8 0, .int .u8 0, .int .u8 0, .int .u8 0, .int .u8 0, .int .u8 0, .int .u8 0] 89 (0, 0)))) := Lib.hid (hb.trans ((Below.refl _ _).alloc hb.size _))
  have HS := Lib.hid hb.size
  have HN2 : Hid (((w1.alloc (.cells #[.int .u8 0, .int .u8 0, .int .u8 0, .int .u8 0, .int .u8 0, .int .u8 0, .int .u8 0, .int .u8 0, .int .u8 0, .int .u8 0, .int .u8 0, .int .u8 0, .int .u8 0, .int .u8 0, .int .u8 0, .int .u8 0] 89 (0, 0))).setRow w1.heap.size X).heap[w1.heap.size]? = some (.cells X 89 (0, 0))) := Lib.hid (setRow_heap _ _ _ X _ _ HN.out)
  have HB2 : Hid (Below w.heap.size w ((w1.alloc (.cells #[.int .u8 0, .int .u8 0, .int .u8 0, .int .u8 0, .int .u8 0, .int .u8 0, .int .u8 0, .int .u8 0, .int .u8 0, .int .u8 0, .int .u8 0, .int .u8 0, .int .u8 0, .int .u8 0, .int .u8 0, .int .u8 0] 89 (0, 0))).setRow w1.heap.size X)) := Lib.hid (below_setRow HB.out HS.out _)
  clear hb
  go_wp2_with (first | (refine wpList_store_row rfl 89 _ _ rfl w1.heap.size X rfl rfl 89 #[.int .u8 0, .int .u8 0, .int .u8 0, .int .u8 0, .int .u8 0, .int .u8 0, .int .u8 0, .int .u8 0, .int .u8 0, .int .u8 0, .int .u8 0, .int .u8 0, .int .u8 0, .int .u8 0, .int .u8 0, .int .u8 0] HN.out HS16.out.1 (by rw [HS16.out.2.1]; rfl) HS16.out.2.2 ?_) | (refine wpList_load_row rfl 89 _ rfl w1.heap.size rfl 89 X (0, 0) _ HN2.out Tryz.underlying89 rfl HS16.out.1 ?_))
  refine (HT.out _ HB2.out).mono ?_; rintro e w2 ⟨rfl, hb⟩
  have HB3 : Hid (Below w.heap.size w w2) := Lib.hid (HB2.out.trans (hb.mono HB2.out.size))
  clear hb
  go_wp2_with fail
  go_ret2
  exact ⟨rfl, HB3.out⟩
def uuC : ByteArray → ByteArray × Int := fun s => if allU s.data.toList then (⟨(txtU (cellU (gU s.data.toList) 32) 36).toArray⟩, 0) else (⟨#[]⟩, 130)
theorem bytes_of_u (s : ByteArray) : (⟨s.data.toList.toArray⟩ : ByteArray) = s := by cases s; simp
theorem uuid_c (w : World) : CanC w 35 #[] uuC := fun s hs W hW => by
  rw [app_nil]; unfold uuC
  have hP : DoesU W 53 #[.string s] (if allU s.data.toList then .tuple #[.agg (rowU (gU s.data.toList) 32), .int .i64 0] else .tuple #[.agg #[.int .u8 0, .int .u8 0, .int .u8 0, .int .u8 0, .int .u8 0, .int .u8 0, .int .u8 0, .int .u8 0, .int .u8 0, .int .u8 0, .int .u8 0, .int .u8 0, .int .u8 0, .int .u8 0, .int .u8 0, .int .u8 0], .int .i64 130]) := fun W' _ => by
    have := uparse_any s.data.toList (by rw [Array.length_toList]; show s.size ≤ _; omega) W'
    rw [bytes_of_u] at this
    exact this
  cases h : allU s.data.toList with
  | true =>
    rw [h, if_pos rfl] at hP
    rw [if_pos rfl]
    exact ucanon_go s _ _ (rowU_size _ _) (rowU_one _ _) W (Lib.hid hP) (Lib.hid fun W' _ => utext_any _ (cellU (gU s.data.toList) 32) (rowU_size _ _) (fun j hj => rowU_at _ _ _ hj) (fun j => cellU_lt _ _ _) W')
  | false =>
    rw [h, if_neg Bool.false_ne_true] at hP
    rw [if_neg Bool.false_ne_true]
    exact ucanon_no s W (Lib.hid hP)
theorem kind_6 (w : World) (hE : EnvS w) :
    Calls Tryz.prog 15 #[.int .u8 6] w fun e w' => (∃ cap : Array Value, e = .returned (.tuple #[.agg #[.func (.func 46) #[] cap, (.func (.func 22) #[] #[]), .nilFunc, .bool false], .int .i64 0]) ∧ PlC w' 46 cap (.func (.func 22) #[] #[]) .nilFunc false (toldR uuC)) ∧ Below w.heap.size w w' := by
  refine (of_6 w).mono ?_
  rintro e w1 ⟨⟨p6, rfl, h1⟩, hb⟩
  exact ⟨⟨_, rfl, plain_c _ _ _ _ _ _ w1 ent_told (told_c p6 _ #[] uuC w1 h1 (enters_of Tryz.func35 (by kernel_rfl) rfl) (hE.u.below hb) (uuid_c w1))⟩, hb⟩
end Go.Proofs.YtjhgiojmlkeccaaGreatDoor
namespace Go.Proofs.YtjhgiojmlkeccaaGreatDoor
open Go.RowKit Go.Shelf
theorem plainR_true (rd : RdV) (k : Int) (tx : ByteArray) (n m : Int) (h : (plainR rd k tx n m).2.2.2 = true) : plainR rd k tx n m = rd k tx n := by
  unfold plainR at h ⊢
  by_cases c : m = 0 ∧ (if k = 3 then n = 0 else tx.toList = [])
  · rw [if_pos c]
  · rw [if_neg c] at h; exact absurd h (by simp)
end Go.Proofs.YtjhgiojmlkeccaaGreatDoor
namespace Go.Proofs.YtjhgiojmlkeccaaGreatDoor
open Go.RowKit Go.Shelf
/-- A cell's five fields. -/
structure Cl where
  k : Int
  nm : ByteArray
  tx : ByteArray
  n : Int
  m : Int
def okC (rd : RdV) (a : Cl) : Prop := okP rd a.k a.nm a.tx a.n a.m
instance (rd : RdV) (a : Cl) : Decidable (okC rd a) := by unfold okC; exact inferInstance
end Go.Proofs.YtjhgiojmlkeccaaGreatDoor
namespace Go.Proofs.YtjhgiojmlkeccaaGreatDoor
open Go.RowKit Go.Shelf
def cellV (a : Cl) : Value := .agg #[.int .u8 a.k, .string a.nm, .string a.tx, .int .i64 a.n, .int .i64 a.m]
end Go.Proofs.YtjhgiojmlkeccaaGreatDoor
namespace Go.Proofs.YtjhgiojmlkeccaaGreatDoor
open Go.RowKit
set_option maxRecDepth 100000 in
set_option maxHeartbeats 4000000 in
theorem great16_no (ka : Int) (nma txa : ByteArray) (na ma : Int) (kb : Int) (nmb txb : ByteArray) (nb mb : Int) (w : World) (h1 : ¬ (1000 : Int) < (txa.size : Int)) (h2 : ¬ (1000 : Int) < (txb.size : Int)) :
    Calls Tryz.prog 7 #[.agg #[.int .u8 ka, .string nma, .string txa, .int .i64 na, .int .i64 ma], .agg #[.int .u8 kb, .string nmb, .string txb, .int .i64 nb, .int .i64 mb]] w fun e w' => e = .returned (.bool false) ∧ Below w.heap.size w w' := by
  go_enter Tryz.func7, Tryz.ntmps7
  go_wp2_with fail
  go_ret
  refine ⟨rfl, by go_grown⟩
set_option maxRecDepth 100000 in
set_option maxHeartbeats 4000000 in
theorem great16_fst (ka : Int) (nma txa : ByteArray) (na ma : Int) (kb : Int) (nmb txb : ByteArray) (nb mb : Int) (w : World) (h1 : (1000 : Int) < (txa.size : Int)) :
    Calls Tryz.prog 7 #[.agg #[.int .u8 ka, .string nma, .string txa, .int .i64 na, .int .i64 ma], .agg #[.int .u8 kb, .string nmb, .string txb, .int .i64 nb, .int .i64 mb]] w fun e w' => e = .returned (.bool true) ∧ Below w.heap.size w w' := by
  go_enter Tryz.func7, Tryz.ntmps7
  go_wp2_with fail
  go_ret
  refine ⟨rfl, by go_grown⟩
set_option maxRecDepth 100000 in
set_option maxHeartbeats 4000000 in
theorem great16_snd (ka : Int) (nma txa : ByteArray) (na ma : Int) (kb : Int) (nmb txb : ByteArray) (nb mb : Int) (w : World) (h1 : ¬ (1000 : Int) < (txa.size : Int)) (h2 : (1000 : Int) < (txb.size : Int)) :
    Calls Tryz.prog 7 #[.agg #[.int .u8 ka, .string nma, .string txa, .int .i64 na, .int .i64 ma], .agg #[.int .u8 kb, .string nmb, .string txb, .int .i64 nb, .int .i64 mb]] w fun e w' => e = .returned (.bool true) ∧ Below w.heap.size w w' := by
  go_enter Tryz.func7, Tryz.ntmps7
  go_wp2_with fail
  go_ret
  refine ⟨rfl, by go_grown⟩
theorem great16_any (a b : Cl) (w : World) : DoesU w 7 #[cellV a, cellV b] (.bool (decide (1000 < a.tx.size ∨ 1000 < b.tx.size))) := fun W _ => by
  by_cases h1 : 1000 < a.tx.size
  · rw [decide_eq_true (Or.inl h1)]
    exact great16_fst _ _ _ _ _ _ _ _ _ _ W (by omega)
  · by_cases h2 : 1000 < b.tx.size
    · rw [decide_eq_true (Or.inr h2)]
      exact great16_snd _ _ _ _ _ _ _ _ _ _ W (by omega) (by omega)
    · rw [decide_eq_false (by rintro (h | h) <;> omega)]
      exact great16_no _ _ _ _ _ _ _ _ _ _ W (by omega) (by omega)
end Go.Proofs.YtjhgiojmlkeccaaGreatDoor
namespace Go.Proofs.YtjhgiojmlkeccaaGreatDoor
open Go.RowKit Go.Shelf
theorem txt_ascii (m : Int) (s : Nat) : ∀ c ∈ txt m s, c.toNat < 128 := by
  have hp : ∀ c ∈ pad m s, c.toNat < 128 := fun c hc => by
    have := List.all_eq_true.1 (pad_all m s) c hc
    unfold isDig at this; rw [decide_eq_true_eq] at this; omega
  intro c hc
  unfold txt at hc
  rcases List.mem_append.1 hc with h | h
  · split at h
    · rw [List.mem_singleton] at h; subst h; decide
    · exact absurd h (by simp)
  · split at h
    · exact hp c h
    · rcases List.mem_append.1 h with h | h
      · exact hp c (List.mem_of_mem_take h)
      · rcases List.mem_cons.1 h with h | h
        · subst h; decide
        · exact hp c (List.mem_of_mem_drop h)
theorem txt_chk (m : Int) (s : Nat) (hr : R m) (hs : s ≤ 18) : chkE (txt m s) = 0 := by
  have hl := txt_len m s
  have hd : (Lib.decDigits m.natAbs).length ≤ 20 := dec_len _ 20 (by omega) (by unfold R at hr; omega)
  have h1 : (txt m s).length ≤ 16384 := by
    rw [hl]
    have a1 : (if m < 0 then 1 else 0) ≤ 1 := by split <;> omega
    have a2 : (if (Lib.decDigits m.natAbs).length ≤ s then s + 1 else (Lib.decDigits m.natAbs).length) ≤ 20 := by split <;> omega
    have a3 : (if s = 0 then 0 else 1) ≤ 1 := by split <;> omega
    omega
  have hv : Lib.validD (txt m s) = true := by
    rw [Lib.validD_ascii (txt m s).length (txt m s) (fun c hc => txt_ascii m s c (List.mem_of_mem_take hc)), List.drop_length]
    rfl
  unfold chkE
  rw [if_neg (by omega), if_pos hv]
end Go.Proofs.YtjhgiojmlkeccaaGreatDoor
namespace Go.Proofs.YtjhgiojmlkeccaaGreatDoor
theorem since_date (n : Int) : sinceD (dateY n) (dateM n) (dateDD n) = n := by
  have hr := eraR_bd n
  have hy := eraY_bd (eraR n) hr.1 hr.2
  have hm := monthD_bd (eraD (eraR n))
  have hn : eraR n = n - n / 146097 * 146097 := rfl
  have hD : eraD (eraR n) = eraR n - (365 * eraY (eraR n) + eraY (eraR n) / 4 - eraY (eraR n) / 100) := rfl
  unfold sinceD dateY dateM dateDD
  generalize monthD (eraD (eraR n)) = m at *
  generalize eraD (eraR n) = D at *
  generalize eraY (eraR n) = Y at *
  generalize eraR n = r at *
  generalize n / 146097 = q at *
  by_cases h : 12 < m + 3
  · simp only [if_pos h]
    rw [if_pos (by omega), show m + 3 - 12 + 9 = m by omega]
    omega
  · simp only [if_neg h]
    rw [if_neg (by omega), show m + 3 - 3 = m by omega]
    omega
theorem month_tab : ∀ k : Nat, k < 366 → aheadD (monthD (k : Int)) ≤ (k : Int) ∧ (k : Int) - aheadD (monthD (k : Int)) ≤ 30 := by decide +kernel
theorem year_tab : ∀ k : Nat, k < 61 → dateY (-(k : Int)) = 0 := by decide +kernel
theorem dateDD_in (n : Int) : 1 ≤ dateDD n ∧ dateDD n ≤ 31 := by
  have h := eraD_bd (eraR n) (eraR_bd n).1 (eraR_bd n).2
  obtain ⟨k, hk⟩ : ∃ k : Nat, eraD (eraR n) = k := ⟨(eraD (eraR n)).toNat, by omega⟩
  have := month_tab k (by omega)
  unfold dateDD
  rw [hk]
  omega
theorem dateM_in (n : Int) : 1 ≤ dateM n ∧ dateM n ≤ 12 := by
  have := monthD_bd (eraD (eraR n))
  unfold dateM
  split <;> omega
theorem month_10 (k : Int) (h : k ≤ 305) : monthD k ≤ 9 := by
  unfold monthD
  rw [if_neg (by omega), if_neg (by omega)]
  repeat' split
  all_goals omega
theorem dateY_in (n : Int) (h0 : -60 ≤ n) (h1 : n ≤ 3652364) : 0 ≤ dateY n ∧ dateY n ≤ 9999 := by
  by_cases hn : n < 0
  · obtain ⟨k, hk⟩ : ∃ k : Nat, n = -(k : Int) := ⟨(-n).toNat, by omega⟩
    have := year_tab k (by omega)
    rw [hk, this]
    omega
  · have hr := eraR_bd n
    have hy := eraY_bd (eraR n) hr.1 hr.2
    have hn : eraR n = n - n / 146097 * 146097 := rfl
    have hD : eraD (eraR n) = eraR n - (365 * eraY (eraR n) + eraY (eraR n) / 4 - eraY (eraR n) / 100) := rfl
    have hm := month_10 (eraD (eraR n))
    have hq : 0 ≤ n / 146097 ∧ n / 146097 ≤ 24 := by omega
    unfold dateY
    generalize monthD (eraD (eraR n)) = m at *
    generalize eraD (eraR n) = D at *
    generalize eraY (eraR n) = Y at *
    generalize eraR n = r at *
    generalize n / 146097 = q at *
    by_cases h24 : q = 24
    · by_cases h399 : Y = 399
      · rw [if_neg (by have := hm (by omega); omega)]
        omega
      · split <;> omega
    · split <;> omega
theorem valU_num (l : List UInt8) (h : l.all isDig = true) : valU l = (num l : Int) := by
  have key : ∀ (l : List UInt8) (a : Nat), l.all isDig = true → l.foldl (fun n c => n * 10 + ((c.toNat : Int) - 48) % 256) (a : Int) = (numFrom a l : Int) := by
    intro l
    induction l with
    | nil => intro a _; rfl
    | cons c r ih =>
      intro a h
      rw [List.all_cons, Bool.and_eq_true] at h
      have hc := (dig_of c).1 h.1
      rw [List.foldl_cons, numFrom_cons]
      rw [show (a : Int) * 10 + ((c.toNat : Int) - 48) % 256 = ((a * 10 + dv c : Nat) : Int) by unfold dv; omega]
      exact ih _ h.2
  exact key l 0 h
theorem num_noughts (k : Nat) (l : List UInt8) : num (List.replicate k 48 ++ l) = num l := by
  have key : ∀ k : Nat, numFrom 0 (List.replicate k 48) = 0 := by
    intro k
    induction k with
    | zero => rfl
    | succ k ih => rw [List.replicate_succ, numFrom_cons]; exact ih
  unfold num
  rw [numFrom_append, key]
theorem num_behind (l : List UInt8) (j : Nat) : num (l ++ List.replicate j 48) = num l * 10 ^ j := by
  induction j generalizing l with
  | zero => simp
  | succ j ih =>
    rw [List.replicate_succ', ← List.append_assoc, num_snoc, ih, Nat.pow_succ, ← Nat.mul_assoc]
    rfl
theorem itoa_dec (n : Int) (h : 0 ≤ n) : Lib.itoa n = Lib.decDigits n.toNat := by unfold Lib.itoa; rw [if_neg (by omega)]
theorem digD_fine (n : Int) (many : Nat) (h0 : 0 ≤ n) (h1 : n < 10 ^ many) (hm : 1 ≤ many) : (digD n many).length = many ∧ (digD n many).all isDig = true ∧ valU (digD n many) = n := by
  have hd := dec_all n.toNat
  have hl := dec_len n.toNat many hm (by
    have : ((n.toNat : Nat) : Int) < ((10 ^ many : Nat) : Int) := by rw [Int.toNat_of_nonneg h0]; push_cast; exact h1
    omega)
  have ha : (digD n many).all isDig = true := by
    unfold digD
    rw [itoa_dec n h0, List.all_append, hd.1, Bool.and_true, List.all_eq_true]
    intro c hc
    rw [List.eq_of_mem_replicate hc]
    rfl
  refine ⟨?_, ha, ?_⟩
  · unfold digD
    rw [itoa_dec n h0, List.length_append, List.length_replicate]
    omega
  · rw [valU_num _ ha]
    unfold digD
    rw [num_noughts, itoa_dec n h0, hd.2.2]
    omega
theorem dNum_fine (l r : List UInt8) (lo hi : Int) (ha : l.all isDig = true) (h0 : lo ≤ valU l) (h1 : valU l ≤ hi) : dNum l.length lo hi (l ++ r) false = (valU l, r, false) := by
  unfold dNum
  rw [if_neg (by rw [List.length_append]; omega)]
  have e1 : (l ++ r).take l.length = l := by simp
  have e2 : (l ++ r).drop l.length = r := by simp
  have e3 : (l.any fun c => !isDig c) = false := by
    rw [List.any_eq_false]
    intro c hc
    have := List.all_eq_true.1 ha c hc
    rw [this]; decide
  rw [e1, e2, e3, decide_eq_false (by omega), decide_eq_false (by omega)]
  rfl
theorem dNum_digD (n : Int) (many : Nat) (lo hi : Int) (r : List UInt8) (h0 : 0 ≤ n) (h1 : n < 10 ^ many) (hm : 1 ≤ many) (hlo : lo ≤ n) (hhi : n ≤ hi) : dNum many lo hi (digD n many ++ r) false = (n, r, false) := by
  obtain ⟨e1, e2, e3⟩ := digD_fine n many h0 h1 hm
  have := dNum_fine (digD n many) r lo hi e2 (by omega) (by omega)
  rw [e1, e3] at this
  exact this
theorem dMark_fine (marks : List UInt8) (c : UInt8) (r : List UInt8) (h : marks.contains c = true) : dMark marks (c :: r) false = (c.toNat, r, false) := by
  unfold dMark
  dsimp only
  rw [if_pos h]
theorem trimRB_app (l : List UInt8) : ∃ j, l = Lib.trimRightB l 48 ++ List.replicate j 48 := by
  refine ⟨(l.reverse.takeWhile (· == 48)).length, ?_⟩
  unfold Lib.trimRightB
  have h : l.reverse = l.reverse.takeWhile (· == 48) ++ l.reverse.dropWhile (· == 48) := (List.takeWhile_append_dropWhile).symm
  have h2 : l.reverse.takeWhile (· == 48) = List.replicate (l.reverse.takeWhile (· == 48)).length 48 := by
    refine List.eq_replicate_iff.2 ⟨rfl, fun c hc => ?_⟩
    have := List.all_eq_true.1 (List.all_takeWhile (p := (· == (48 : UInt8))) (l := l.reverse)) c hc
    simpa using this
  have h3 := congrArg List.reverse h
  rw [List.reverse_reverse, List.reverse_append] at h3
  rw [h2, List.reverse_replicate] at h3
  simpa using h3
theorem frac_fine (n : Int) (h0 : 0 < n) (h1 : n ≤ 999999999) : 1 ≤ (fracD n).length ∧ (fracD n).length ≤ 9 ∧ (fracD n).all isDig = true ∧ valU (fracD n) * 10 ^ (9 - (fracD n).length) = n := by
  obtain ⟨e1, e2, e3⟩ := digD_fine n 9 (by omega) (by omega) (by omega)
  obtain ⟨j, hj⟩ := trimRB_app (digD n 9)
  have hf : fracD n = Lib.trimRightB (digD n 9) 48 := rfl
  rw [← hf] at hj
  have hl : (fracD n).length + j = 9 := by
    rw [← e1]
    conv => rhs; rw [hj]
    rw [List.length_append, List.length_replicate]
  have ha : (fracD n).all isDig = true := by
    rw [hj, List.all_append, Bool.and_eq_true] at e2
    exact e2.1
  have hv : (num (fracD n) : Int) * 10 ^ j = n := by
    have h4 : num (digD n 9) = num (fracD n) * 10 ^ j := by
      conv => lhs; rw [hj]
      exact num_behind _ _
    rw [valU_num _ e2, h4] at e3
    push_cast at e3
    exact e3
  refine ⟨?_, by omega, ha, ?_⟩
  · refine Nat.one_le_iff_ne_zero.2 fun h => ?_
    have : fracD n = [] := List.length_eq_zero_iff.1 h
    rw [this] at hv
    have : num [] = 0 := rfl
    rw [this] at hv
    omega
  · rw [valU_num _ ha, show 9 - (fracD n).length = j by omega]
    exact hv
theorem takeWhile_app (l r : List UInt8) (c : UInt8) (h : l.all isDig = true) (hc : isDig c = false) : (l ++ c :: r).takeWhile isDig = l := by
  rw [List.takeWhile_append_of_pos (fun x hx => List.all_eq_true.1 h x hx), List.takeWhile_cons, hc]
  simp
theorem dFrac_fine (n : Int) (h0 : 0 < n) (h1 : n ≤ 999999999) : dFrac (46 :: (fracD n ++ [90])) false = (n, [90], false) := by
  obtain ⟨e1, e2, e3, e4⟩ := frac_fine n h0 h1
  unfold dFrac
  dsimp only
  rw [if_pos rfl, takeWhile_app _ _ _ e3 (by decide), if_neg (by omega)]
  have hp : (1 : Int) ≤ 10 ^ (9 - (fracD n).length) := Int.pow_pos (by decide)
  have hv0 : 0 ≤ valU (fracD n) := (valU_bd _).1
  have hv1 : valU (fracD n) ≤ n := by
    have := Int.mul_le_mul_of_nonneg_left hp hv0
    rw [Int.mul_one, e4] at this
    exact this
  have h := dNum_fine (fracD n) [90] 0 999999999 e3 hv0 (Int.le_trans hv1 h1)
  simp only [h, e4]
end Go.Proofs.YtjhgiojmlkeccaaGreatDoor
namespace Go.Proofs.YtjhgiojmlkeccaaGreatDoor
theorem day_again (s n : Int) (h : dchk s n = 0) : dParse (dTextL s n) = (s, n, 0) := by
  obtain ⟨hs0, hs1, hn0, hn1⟩ := dchk_0 h
  obtain ⟨q, hq⟩ : ∃ q, s / 86400 + -60 = q := ⟨_, rfl⟩
  have hy := dateY_in q (by omega) (by omega)
  have hm := dateM_in q
  have hd := dateDD_in q
  have hsd := since_date q
  obtain ⟨t, ht⟩ : ∃ t, s % 86400 = t := ⟨_, rfl⟩
  have t0 : 0 ≤ t ∧ t ≤ 86399 := by omega
  obtain ⟨F, hF⟩ : ∃ F, (if 0 < n then 46 :: fracD n else []) ++ [90] = F := ⟨_, rfl⟩
  have hf : dFrac F false = (n, [90], false) := by
    rw [← hF]
    by_cases hn : 0 < n
    · rw [if_pos hn]; exact dFrac_fine n hn hn1
    · rw [if_neg hn, show n = 0 by omega]; rfl
  have hl : dTextL s n = (digD (dateY q) 4 ++ (45 :: (digD (dateM q) 2 ++ (45 :: (digD (dateDD q) 2 ++ (84 :: (digD (t / 3600) 2 ++ (58 :: (digD (t / 60 % 60) 2 ++ (58 :: (digD (t % 60) 2 ++ F))))))))))) := by
    unfold dTextL
    rw [hq, ht, ← hF]
    simp only [List.append_assoc, List.cons_append, List.nil_append]
  generalize dTextL s n = l at *
  have e0 : d0 l = (dateY q, (45 :: (digD (dateM q) 2 ++ (45 :: (digD (dateDD q) 2 ++ (84 :: (digD (t / 3600) 2 ++ (58 :: (digD (t / 60 % 60) 2 ++ (58 :: (digD (t % 60) 2 ++ F)))))))))), false) := by
    rw [d0_eq, hl]
    exact dNum_digD (dateY q) 4 0 9999 _ (by omega) (by omega) (by omega) (by omega) (by omega)
  have e1 : d1 l = ((45 : UInt8).toNat, (digD (dateM q) 2 ++ (45 :: (digD (dateDD q) 2 ++ (84 :: (digD (t / 3600) 2 ++ (58 :: (digD (t / 60 % 60) 2 ++ (58 :: (digD (t % 60) 2 ++ F))))))))), false) := by
    rw [d1_eq, e0]
    exact dMark_fine [45] 45 _ (by decide)
  have e2 : d2 l = (dateM q, (45 :: (digD (dateDD q) 2 ++ (84 :: (digD (t / 3600) 2 ++ (58 :: (digD (t / 60 % 60) 2 ++ (58 :: (digD (t % 60) 2 ++ F)))))))), false) := by
    rw [d2_eq, e1]
    exact dNum_digD (dateM q) 2 1 12 _ (by omega) (by omega) (by omega) (by omega) (by omega)
  have e3 : d3 l = ((45 : UInt8).toNat, (digD (dateDD q) 2 ++ (84 :: (digD (t / 3600) 2 ++ (58 :: (digD (t / 60 % 60) 2 ++ (58 :: (digD (t % 60) 2 ++ F))))))), false) := by
    rw [d3_eq, e2]
    exact dMark_fine [45] 45 _ (by decide)
  have e4 : d4 l = (dateDD q, (84 :: (digD (t / 3600) 2 ++ (58 :: (digD (t / 60 % 60) 2 ++ (58 :: (digD (t % 60) 2 ++ F)))))), false) := by
    rw [d4_eq, e3]
    exact dNum_digD (dateDD q) 2 1 31 _ (by omega) (by omega) (by omega) (by omega) (by omega)
  have e5 : d5 l = ((84 : UInt8).toNat, (digD (t / 3600) 2 ++ (58 :: (digD (t / 60 % 60) 2 ++ (58 :: (digD (t % 60) 2 ++ F))))), false) := by
    rw [d5_eq, e4]
    exact dMark_fine [84, 116] 84 _ (by decide)
  have e6 : d6 l = (t / 3600, (58 :: (digD (t / 60 % 60) 2 ++ (58 :: (digD (t % 60) 2 ++ F)))), false) := by
    rw [d6_eq, e5]
    exact dNum_digD (t / 3600) 2 0 23 _ (by omega) (by omega) (by omega) (by omega) (by omega)
  have e7 : d7 l = ((58 : UInt8).toNat, (digD (t / 60 % 60) 2 ++ (58 :: (digD (t % 60) 2 ++ F))), false) := by
    rw [d7_eq, e6]
    exact dMark_fine [58] 58 _ (by decide)
  have e8 : d8 l = (t / 60 % 60, (58 :: (digD (t % 60) 2 ++ F)), false) := by
    rw [d8_eq, e7]
    exact dNum_digD (t / 60 % 60) 2 0 59 _ (by omega) (by omega) (by omega) (by omega) (by omega)
  have e9 : d9 l = ((58 : UInt8).toNat, (digD (t % 60) 2 ++ F), false) := by
    rw [d9_eq, e8]
    exact dMark_fine [58] 58 _ (by decide)
  have e10 : d10 l = (t % 60, F, false) := by
    rw [d10_eq, e9]
    exact dNum_digD (t % 60) 2 0 59 _ (by omega) (by omega) (by omega) (by omega) (by omega)
  have e11 : d11 l = (n, [90], false) := by
    rw [d11_eq, e10]
    exact hf
  have e12 : d12 l = ((90 : UInt8).toNat, [], false) := by
    rw [d12_eq, e11]
    exact dMark_fine [90, 122, 43, 45] 90 [] (by decide)
  have eo : dOff l = (0, [], false) := by
    unfold dOff
    rw [e12, if_neg (by decide), if_neg (by decide)]
  have es : dSd l = q := by
    unfold dSd
    rw [e0, e2, e4]
    exact hsd
  have ec : dSec l = s := by
    unfold dSec
    rw [es, e6, e8, e10, eo]
    dsimp only
    omega
  have ek : dOk l = true := by
    unfold dOk
    rw [eo, es, ec, e11, e0, e2, e4]
    dsimp only
    rw [h, beq_self_eq_true, beq_self_eq_true, beq_self_eq_true]
    rfl
  unfold dParse
  rw [if_pos ek, ec, e11]
theorem toL_back (l : List UInt8) : (⟨l.toArray⟩ : ByteArray).data.toList = l := by simp
theorem dParse_chk (l : List UInt8) (h : (dParse l).2.2 = 0) : dchk (dParse l).1 (dParse l).2.1 = 0 := by
  unfold dParse at h ⊢
  by_cases hk : dOk l = true
  · rw [if_pos hk]
    have h2 := hk
    unfold dOk at h2
    simp only [Bool.and_eq_true, beq_iff_eq] at h2
    exact h2.2
  · rw [if_neg hk] at h
    cases h
theorem dayC_again (s : ByteArray) (h : (dayC s).2 = 0) : dayC (dayC s).1 = ((dayC s).1, 0) := by
  unfold dayC at h
  by_cases hp : (dParse s.data.toList).2.2 = 0
  · have hc := dParse_chk _ hp
    have e : dayC s = (⟨(dTextL (dParse s.data.toList).1 (dParse s.data.toList).2.1).toArray⟩, 0) := by
      unfold dayC dText
      rw [if_pos hp, if_pos hc]
    have ha := day_again _ _ hc
    rw [e]
    generalize (dParse s.data.toList).1 = a at *
    generalize (dParse s.data.toList).2.1 = b at *
    unfold dayC
    rw [toL_back, ha]
    dsimp only
    have e3 : dText a b = (dTextL a b, 0) := by unfold dText; rw [if_pos hc]
    rw [e3, if_pos (Eq.refl (0 : Int))]
  · rw [if_neg hp] at h
    dsimp only at h
    exact absurd h hp
end Go.Proofs.YtjhgiojmlkeccaaGreatDoor
namespace Go.Proofs.YtjhgiojmlkeccaaGreatDoor
theorem hv_hex : ∀ x : Nat, x < 16 → hvU (hexU x) = (x : Int) := by decide +kernel
theorem pos_tab : ∀ i : Nat, i < 32 → posU i < 36 ∧ dashU (posU i) = false ∧ ndU (posU i) = i := by decide +kernel
theorem nd_tab : ∀ k : Nat, k < 36 → dashU k = false → ndU k < 32 := by decide +kernel
theorem nib_lt (u : Nat → Nat) (hu : ∀ j, u j < 256) (n : Nat) : nibU u n < 16 := by
  unfold nibU
  have := hu (n / 2)
  split <;> omega
theorem txtU_at (u : Nat → Nat) (k : Nat) (hk : k < 36) : (txtU u 36).getD k 0 = chrU u k := by
  unfold txtU
  rw [List.getD_eq_getElem?_getD, List.getElem?_map, List.getElem?_range hk]
  rfl
theorem txtU_all (u : Nat → Nat) (hu : ∀ j, u j < 256) : allU (txtU u 36) = true := by
  unfold allU
  rw [Bool.and_eq_true]
  refine ⟨by unfold txtU; simp, ?_⟩
  rw [List.all_eq_true]
  intro k hk
  rw [List.mem_range] at hk
  unfold okU
  rw [txtU_at u k hk]
  unfold chrU
  by_cases hd : dashU k = true
  · rw [if_pos hd, if_pos hd]; rfl
  · rw [if_neg hd, if_neg hd, hv_hex _ (nib_lt u hu _)]
    exact decide_eq_true (by omega)
theorem gU_txt (u : Nat → Nat) (hu : ∀ j, u j < 256) (i : Nat) (hi : i < 32) : gU (txtU u 36) i = nibU u i := by
  obtain ⟨h1, h2, h3⟩ := pos_tab i hi
  unfold gU
  rw [txtU_at u _ h1]
  unfold chrU
  rw [h2, h3, if_neg (by decide), hv_hex _ (nib_lt u hu _)]
  rfl
theorem cellU_txt (u : Nat → Nat) (hu : ∀ j, u j < 256) (j : Nat) (hj : j < 16) : cellU (gU (txtU u 36)) 32 j = u j := by
  unfold cellU
  rw [if_pos (by omega), gU_txt u hu _ (by omega), gU_txt u hu _ (by omega)]
  unfold nibU
  rw [if_pos (by omega), if_neg (by omega), show 2 * j / 2 = j by omega, show (2 * j + 1) / 2 = j by omega]
  have := hu j
  omega
theorem txtU_congr (u v : Nat → Nat) (h : ∀ j, j < 16 → u j = v j) : txtU u 36 = txtU v 36 := by
  unfold txtU
  refine List.map_congr_left fun k hk => ?_
  rw [List.mem_range] at hk
  unfold chrU
  by_cases hd : dashU k = true
  · rw [if_pos hd, if_pos hd]
  · rw [if_neg hd, if_neg hd]
    have := nd_tab k hk (by simpa using hd)
    unfold nibU
    rw [h (ndU k / 2) (by omega)]
theorem uuC_again (s : ByteArray) (h : (uuC s).2 = 0) : uuC (uuC s).1 = ((uuC s).1, 0) := by
  unfold uuC at h
  by_cases ha : allU s.data.toList = true
  · have e : uuC s = (⟨(txtU (cellU (gU s.data.toList) 32) 36).toArray⟩, 0) := by unfold uuC; rw [if_pos ha]
    have hu : ∀ j, cellU (gU s.data.toList) 32 j < 256 := fun j => cellU_lt _ _ _
    rw [e]
    generalize cellU (gU s.data.toList) 32 = u at *
    have hb : (⟨(txtU u 36).toArray⟩ : ByteArray).data.toList = txtU u 36 := by simp
    unfold uuC
    rw [hb, if_pos (txtU_all u hu), txtU_congr _ u (cellU_txt u hu)]
  · rw [if_neg ha] at h
    cases h
end Go.Proofs.YtjhgiojmlkeccaaGreatDoor
namespace Go.Proofs.YtjhgiojmlkeccaaGreatDoor
open Go.RowKit Go.Shelf
theorem chk_ascii (l : List UInt8) (h : ∀ c ∈ l, c.toNat < 128) (hl : l.length ≤ 16384) : chkE l = 0 := by
  have hv : Lib.validD l = true := by
    rw [Lib.validD_ascii l.length l (fun c hc => h c (List.mem_of_mem_take hc)), List.drop_length]
    rfl
  unfold chkE
  rw [if_neg (by omega), if_pos hv]
theorem asc_dig {l : List UInt8} (h : l.all isDig = true) : ∀ c ∈ l, c.toNat < 128 := fun c hc => by
  have := (dig_of c).1 (List.all_eq_true.1 h c hc)
  omega
theorem asc_app {a b : List UInt8} (ha : ∀ c ∈ a, c.toNat < 128) (hb : ∀ c ∈ b, c.toNat < 128) : ∀ c ∈ a ++ b, c.toNat < 128 := fun c hc => by
  rcases List.mem_append.1 hc with h | h
  · exact ha c h
  · exact hb c h
theorem asc_all {l : List UInt8} (h : l.all (fun c => decide (c.toNat < 128)) = true) : ∀ c ∈ l, c.toNat < 128 := fun c hc => by
  have := List.all_eq_true.1 h c hc
  simpa using this
/-- A text's function gives right texts, that it takes as themselves. -/
def OnceT (cs : ByteArray → ByteArray × Int) : Prop := ∀ s : ByteArray, s.size ≤ 1000 → chkE s.data.toList = 0 → (cs s).2 = 0 → cs (cs s).1 = ((cs s).1, 0) ∧ chkE (cs s).1.data.toList = 0 ∧ (cs s).1.size ≤ 1000000
theorem once_same : OnceT sameC := fun s h1 h2 h3 => ⟨rfl, h2, by show s.size ≤ _; omega⟩
theorem once_some : OnceT someC := fun s h1 h2 h3 => by
  unfold someC at h3
  by_cases h : s.toList = []
  · rw [if_pos h] at h3; cases h3
  · have e : someC s = (s, 0) := by unfold someC; rw [if_neg h]
    rw [e]
    exact ⟨e, h2, by show s.size ≤ _; omega⟩
theorem dText_fine (s n : Int) (h : dchk s n = 0) : (∀ c ∈ dTextL s n, c.toNat < 128) ∧ (dTextL s n).length ≤ 100 := by
  obtain ⟨hs0, hs1, hn0, hn1⟩ := dchk_0 h
  obtain ⟨q, hq⟩ : ∃ q, s / 86400 + -60 = q := ⟨_, rfl⟩
  have hy := dateY_in q (by omega) (by omega)
  have hm := dateM_in q
  have hd := dateDD_in q
  obtain ⟨t, ht⟩ : ∃ t, s % 86400 = t := ⟨_, rfl⟩
  have t0 : 0 ≤ t ∧ t ≤ 86399 := by omega
  obtain ⟨l0, a0, _⟩ := digD_fine (dateY q) 4 (by omega) (by omega) (by omega)
  obtain ⟨l1, a1, _⟩ := digD_fine (dateM q) 2 (by omega) (by omega) (by omega)
  obtain ⟨l2, a2, _⟩ := digD_fine (dateDD q) 2 (by omega) (by omega) (by omega)
  obtain ⟨l3, a3, _⟩ := digD_fine (t / 3600) 2 (by omega) (by omega) (by omega)
  obtain ⟨l4, a4, _⟩ := digD_fine (t / 60 % 60) 2 (by omega) (by omega) (by omega)
  obtain ⟨l5, a5, _⟩ := digD_fine (t % 60) 2 (by omega) (by omega) (by omega)
  obtain ⟨F, hF⟩ : ∃ F, (if 0 < n then 46 :: fracD n else []) = F := ⟨_, rfl⟩
  have hf : (∀ c ∈ F, c.toNat < 128) ∧ F.length ≤ 10 := by
    rw [← hF]
    by_cases hn : 0 < n
    · rw [if_pos hn]
      obtain ⟨e1, e2, e3, _⟩ := frac_fine n hn hn1
      refine ⟨fun c hc => ?_, by rw [List.length_cons]; omega⟩
      rcases List.mem_cons.1 hc with h | h
      · rw [h]; decide
      · exact asc_dig e3 c h
    · rw [if_neg hn]
      exact ⟨fun c hc => (by cases hc), by simp⟩
  have x45 : ∀ c ∈ ([45] : List UInt8), c.toNat < 128 := asc_all (by decide)
  have x84 : ∀ c ∈ ([84] : List UInt8), c.toNat < 128 := asc_all (by decide)
  have x58 : ∀ c ∈ ([58] : List UInt8), c.toNat < 128 := asc_all (by decide)
  have x90 : ∀ c ∈ ([90] : List UInt8), c.toNat < 128 := asc_all (by decide)
  unfold dTextL
  rw [hq, ht, hF]
  constructor
  · exact asc_app (asc_app (asc_app (asc_app (asc_app (asc_app (asc_app (asc_app (asc_app (asc_app (asc_app (asc_app (asc_dig a0) x45) (asc_dig a1)) x45) (asc_dig a2)) x84) (asc_dig a3)) x58) (asc_dig a4)) x58) (asc_dig a5)) hf.1) x90
  · simp only [List.length_append, List.length_cons, List.length_nil]
    omega
theorem once_day : OnceT dayC := fun s h1 h2 h3 => by
  have hg := dayC_again s h3
  unfold dayC at h3
  by_cases hp : (dParse s.data.toList).2.2 = 0
  · have hc := dParse_chk _ hp
    have e : (dayC s).1 = ⟨(dTextL (dParse s.data.toList).1 (dParse s.data.toList).2.1).toArray⟩ := by
      unfold dayC dText
      rw [if_pos hp, if_pos hc]
    obtain ⟨f1, f2⟩ := dText_fine _ _ hc
    refine ⟨hg, ?_, ?_⟩
    · rw [e, toL_back]
      exact chk_ascii _ f1 (by omega)
    · rw [e, len_mk]
      omega
  · rw [if_neg hp] at h3
    dsimp only at h3
    exact absurd h3 hp
theorem hex_asc : ∀ x : Nat, x < 16 → (hexU x).toNat < 128 := by decide +kernel
theorem once_uu : OnceT uuC := fun s h1 h2 h3 => by
  have hg := uuC_again s h3
  unfold uuC at h3
  by_cases ha : allU s.data.toList = true
  · have e : (uuC s).1 = ⟨(txtU (cellU (gU s.data.toList) 32) 36).toArray⟩ := by unfold uuC; rw [if_pos ha]
    have hu : ∀ j, cellU (gU s.data.toList) 32 j < 256 := fun j => cellU_lt _ _ _
    have hl : (txtU (cellU (gU s.data.toList) 32) 36).length = 36 := by unfold txtU; simp
    refine ⟨hg, ?_, ?_⟩
    · rw [e, toL_back]
      refine chk_ascii _ (fun c hc => ?_) (by omega)
      unfold txtU at hc
      obtain ⟨k, _, rfl⟩ := List.mem_map.1 hc
      unfold chrU
      split
      · decide
      · exact hex_asc _ (nib_lt _ hu _)
    · rw [e, len_mk]
      omega
  · rw [if_neg ha] at h3
    cases h3
theorem dec_back (m : Int) (s : Nat) (hr : R m) (h : may m s = true) : decC ⟨(txt m s).toArray⟩ = (⟨(txt m s).toArray⟩, 0) := by
  obtain ⟨e1, e2, e3⟩ := parse_txt m s hr h
  unfold decC
  rw [toL_back, if_pos e3, e1, e2]
  unfold tx chk
  rw [if_pos h, if_pos h]
  rfl
theorem once_dec : OnceT decC := fun s h1 h2 h3 => by
  cases q : parseOk s.data.toList with
  | true =>
    obtain ⟨hm, hr, _⟩ := parse_may _ q
    have hE := (p_fine _ q).2.2
    have hb := may_bd hm
    have hs : ((pS s.data.toList).toNat : Int) = pS s.data.toList := by omega
    have e : decC s = (⟨(txt (pM s.data.toList) (pS s.data.toList).toNat).toArray⟩, 0) := by
      unfold decC
      rw [if_pos hE]
      unfold tx chk
      rw [if_pos hm, if_pos hm]
    have hk := txt_chk (pM s.data.toList) (pS s.data.toList).toNat hr (by omega)
    have hl : (txt (pM s.data.toList) (pS s.data.toList).toNat).length ≤ 16384 := by
      refine Nat.not_lt.1 fun h => ?_
      unfold chkE at hk
      rw [if_pos (by omega)] at hk
      cases hk
    rw [e]
    refine ⟨dec_back _ _ hr (by rw [hs]; exact hm), by rw [toL_back]; exact hk, ?_⟩
    rw [len_mk]
    omega
  | false =>
    have := (p_bad _ q).2.2
    unfold decC at h3
    rw [if_neg (by omega)] at h3
    dsimp only at h3
    omega
theorem itoa_txt (n : Int) : Lib.itoa n = txt n 0 := by
  have hp : pad n 0 = Lib.decDigits n.natAbs := by
    unfold pad
    have := dec_pos n.natAbs
    rw [show 0 + 1 - (Lib.decDigits n.natAbs).length = 0 by omega]
    rfl
  unfold txt
  rw [if_pos rfl, hp]
  unfold Lib.itoa
  by_cases h : n < 0
  · rw [if_pos h, if_pos h]; rfl
  · rw [if_neg h, if_neg h, show n.toNat = n.natAbs by omega]; rfl
/-- What is read in one way is read as itself. -/
def OnceR (rd : RdV) : Prop := ∀ (ck : Int) (tx : ByteArray) (n m : Int), 0 ≤ ck → ck ≤ 255 → tx.size ≤ 1000 → R n → R m → (plainR rd ck tx n m).2.2.2 = true →
  ∃ (k : Int) (t : ByteArray) (v : Int), plainR rd ck tx n m = (k, t, v, true) ∧ plainR rd k t v 0 = (k, t, v, true) ∧ (if k = 3 then v = 0 else t = ⟨#[]⟩) ∧ (0 ≤ k ∧ k ≤ 255) ∧ t.size ≤ 1000000 ∧ R v
theorem plainR_of (rd : RdV) {k : Int} {tx : ByteArray} {n m : Int} (h : (plainR rd k tx n m).2.2.2 = true) : m = 0 ∧ (if k = 3 then n = 0 else tx.toList = []) ∧ plainR rd k tx n m = rd k tx n := by
  refine ⟨?_, ?_, plainR_true rd k tx n m h⟩
  all_goals
    unfold plainR at h
    by_cases c : m = 0 ∧ (if k = 3 then n = 0 else tx.toList = [])
    · first | exact c.1 | exact c.2
    · rw [if_neg c] at h; cases h
theorem R_zero : R 0 := by unfold R; omega
theorem once_id (rd : RdV) (hrd : ∀ k t n, (rd k t n) = (k, t, n, (rd k t n).2.2.2)) (h3 : ∀ t n, (rd 3 t n).2.2.2 = false) : OnceR rd := by
  intro ck tx n m c0 c1 hs hn hm h
  obtain ⟨rfl, q, e⟩ := plainR_of rd h
  rw [e] at h
  have hk : ¬ ck = 3 := by rintro rfl; rw [h3] at h; cases h
  rw [if_neg hk] at q
  have ht : tx = ⟨#[]⟩ := toL_inj (by rw [q, empty_toList])
  have e2 := hrd ck tx n
  rw [h] at e2
  refine ⟨ck, tx, n, e.trans e2, e.trans e2, ?_, ⟨c0, c1⟩, by omega, hn⟩
  rw [if_neg hk]; exact ht
theorem once_num : OnceR numR := once_id _ (fun _ _ _ => rfl) (fun _ _ => rfl)
theorem once_bool : OnceR boolR := once_id _ (fun _ _ _ => rfl) (fun _ _ => rfl)
theorem once_text {cs : ByteArray → ByteArray × Int} (H : OnceT cs) (tx : ByteArray) (hs : tx.size ≤ 1000) (hc : chkE tx.data.toList = 0) (h : (cs tx).2 = 0) : toldR cs 3 (cs tx).1 0 = (3, (cs tx).1, 0, true) := by
  obtain ⟨a, b, c⟩ := H tx hs hc h
  unfold toldR
  rw [if_pos ⟨rfl, b⟩, a]
  rfl
theorem once_told {cs : ByteArray → ByteArray × Int} (H : OnceT cs) : OnceR (toldR cs) := by
  intro ck tx n m c0 c1 hs hn hm h
  obtain ⟨rfl, q, e⟩ := plainR_of _ h
  rw [e] at h
  unfold toldR at h
  by_cases c : ck = 3 ∧ chkE tx.data.toList = 0
  · rw [if_pos c] at h
    obtain ⟨rfl, hc⟩ := c
    have h0 : (cs tx).2 = 0 := by simpa using h
    have er : toldR cs 3 tx n = (3, (cs tx).1, 0, true) := by unfold toldR; rw [if_pos ⟨rfl, hc⟩, h0]; rfl
    refine ⟨3, (cs tx).1, 0, e.trans er, ?_, by rw [if_pos rfl], by omega, (H tx hs hc h0).2.2, R_zero⟩
    rw [plainR_go _ _ _ _ (by rw [if_pos rfl])]
    exact once_text H tx hs hc h0
  · rw [if_neg c] at h
    cases h
theorem once_digs {cs : ByteArray → ByteArray × Int} (H : OnceT cs) (hi : ∀ n, R n → cs ⟨(Lib.itoa n).toArray⟩ = (⟨(Lib.itoa n).toArray⟩, 0)) : OnceR (digsR (toldR cs)) := by
  intro ck tx n m c0 c1 hs hn hm h
  obtain ⟨rfl, q, e⟩ := plainR_of _ h
  rw [e] at h
  have dig3 : ∀ t v, digsR (toldR cs) 3 t v = toldR cs 3 t v := fun t v => by unfold digsR; rw [if_neg (by decide)]
  by_cases c2 : ck = 2
  · subst c2
    have er : digsR (toldR cs) 2 tx n = (3, ⟨(Lib.itoa n).toArray⟩, 0, true) := by unfold digsR; rw [if_pos rfl]
    have hk : chkE (⟨(Lib.itoa n).toArray⟩ : ByteArray).data.toList = 0 := by rw [toL_back, itoa_txt]; exact txt_chk n 0 hn (by omega)
    refine ⟨3, _, 0, e.trans er, ?_, by rw [if_pos rfl], by omega, ?_, R_zero⟩
    · rw [plainR_go _ _ _ _ (by rw [if_pos rfl]), dig3]
      unfold toldR
      rw [if_pos ⟨rfl, hk⟩, hi n hn]
      rfl
    · rw [len_mk]
      have := len_itoa hn
      omega
  · have ed : digsR (toldR cs) ck tx n = toldR cs ck tx n := by unfold digsR; rw [if_neg c2]
    rw [ed] at h e
    unfold toldR at h
    by_cases c : ck = 3 ∧ chkE tx.data.toList = 0
    · rw [if_pos c] at h
      obtain ⟨rfl, hc⟩ := c
      have h0 : (cs tx).2 = 0 := by simpa using h
      have er : toldR cs 3 tx n = (3, (cs tx).1, 0, true) := by unfold toldR; rw [if_pos ⟨rfl, hc⟩, h0]; rfl
      refine ⟨3, (cs tx).1, 0, e.trans er, ?_, by rw [if_pos rfl], by omega, (H tx hs hc h0).2.2, R_zero⟩
      rw [plainR_go _ _ _ _ (by rw [if_pos rfl]), dig3]
      exact once_text H tx hs hc h0
    · rw [if_neg c] at h
      cases h
theorem once_4 : OnceR (digsR (toldR someC)) := once_digs once_some fun n hn => by
  unfold someC
  rw [if_neg]
  intro h
  have e : Lib.itoa n = [] := by rw [← toL_mk (Lib.itoa n)]; exact h
  have := (read_itoa n).1
  rw [e] at this
  exact absurd this (by decide)
theorem once_7 : OnceR (digsR (toldR decC)) := once_digs once_dec fun n hn => by
  rw [itoa_txt]
  exact dec_back n 0 hn (by unfold may; rw [decide_eq_true_eq]; omega)
end Go.Proofs.YtjhgiojmlkeccaaGreatDoor
