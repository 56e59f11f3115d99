/- Walks and plain laws of this proof, joined from smaller texts (5). -/
import Derived.Lib.IndexLaws
import Derived.Lib.SlTrimSet
import Derived.Shelf.Strings.SlTrimAscii
import Derived.Test.YtjhgiojmlkeccaaGreatDoorShelf
import Derived.Laws.RangeAny
import Derived.Laws.Cover4
import Derived.Laws.RangeString
import Derived.Deep.QuietTactic
import Derived.BigQuiet
import Derived.Laws.MakeOwn
import Derived.Deep.LoopGhost
import Derived.IntWalk
import Derived.Lib.IndexAny
import Derived.Lib.OthersKept
import Derived.Laws.Rows
import Derived.Laws.Tables
import Derived.Laws.CopyOwn
import Derived.Test.YtjhgiojmlkeccaaGreatDoorP4
set_option linter.unusedSimpArgs false
set_option linter.unusedVariables false
namespace Go.Proofs.YtjhgiojmlkeccaaGreatDoor
open Go.RowKit Go.Shelf
set_option maxRecDepth 100000 in
set_option maxHeartbeats 8000000 in
theorem dparse_p (s0 s1 s2 s3 s4 s5 s6 s7 s8 s9 s10 s11 s12 s13 s14 s15 sE : ByteArray) (b1 b2 b3 b4 b5 b6 b7 b8 b9 b10 b11 b12 b13 b14 b15 bE : Bool) (y q1 mo q2 d q3 h q4 mi q5 se na oh q6 om : Int) (hy0 : 0 ≤ y) (hy1 : y ≤ 9999) (hm0 : 1 ≤ mo) (hm1 : mo ≤ 12) (hd0 : 1 ≤ d) (hd1 : d ≤ 31) (hh0 : 0 ≤ h) (hh1 : h ≤ 23) (hi0 : 0 ≤ mi) (hi1 : mi ≤ 59) (hs0 : 0 ≤ se) (hs1 : se ≤ 59) (sd : Int) (hsd0 : -1000 ≤ sd) (hsd1 : sd ≤ 4000000) (dy dm dd ck : Int) (u1 u2 u3 u4 : Bool) (rs rn re : Int) (hu1 : (dy != y) = u1) (hu2 : (dm != mo) = u2) (hu3 : (dd != d) = u3) (hu4 : (ck == 0) = u4) (w : World) (H0 : Hid (DNum 4 0 9999 y s0 false s1 b1)) (H1 : Hid (DMark ⟨#[45]⟩ q1 s1 b1 s2 b2)) (H2 : Hid (DNum 2 1 12 mo s2 b2 s3 b3)) (H3 : Hid (DMark ⟨#[45]⟩ q2 s3 b3 s4 b4)) (H4 : Hid (DNum 2 1 31 d s4 b4 s5 b5)) (H5 : Hid (DMark ⟨#[84, 116]⟩ q3 s5 b5 s6 b6)) (H6 : Hid (DNum 2 0 23 h s6 b6 s7 b7)) (H7 : Hid (DMark ⟨#[58]⟩ q4 s7 b7 s8 b8)) (H8 : Hid (DNum 2 0 59 mi s8 b8 s9 b9)) (H9 : Hid (DMark ⟨#[58]⟩ q5 s9 b9 s10 b10)) (H10 : Hid (DNum 2 0 59 se s10 b10 s11 b11)) (H11 : Hid (DFrac na s11 b11 s12 b12)) (H12 : Hid (DMark ⟨#[90, 122, 43, 45]⟩ 43 s12 b12 s13 b13)) (H13 : Hid (DNum 2 0 23 oh s13 b13 s14 b14)) (H14 : Hid (DMark ⟨#[58]⟩ q6 s14 b14 s15 b15)) (H15 : Hid (DNum 2 0 59 om s15 b15 sE bE)) (HS : Hid (∀ W, Calls Tryz.prog 75 #[.int .i64 y, .int .i64 mo, .int .i64 d] W fun e w' => e = .returned (.int .i64 sd) ∧ W = w')) (HD : Hid (∀ W, Calls Tryz.prog 74 #[.int .i64 sd] W fun e w' => e = .returned (.tuple #[.int .i64 dy, .int .i64 dm, .int .i64 dd]) ∧ W = w'))
    (HCK : Hid (∀ W, Calls Tryz.prog 76 #[.agg #[.int .i64 ((sd + 60) * 86400 + (3600 * h + 60 * mi + se - 60 * (60 * oh + om))), .int .i64 na]] W fun e w' => e = .returned (.int .i64 ck) ∧ Below W.heap.size W w')) (ho0 : 0 ≤ oh) (ho1 : oh ≤ 23) (hp0 : 0 ≤ om) (hp1 : om ≤ 59)
    (hnil : sE.toList = [] → sE = ⟨#[]⟩) (hno : (bE = true ∨ ¬ sE.toList = [] ∨ u1 = true ∨ u2 = true ∨ u3 = true ∨ u4 = false) → (.tuple #[.agg #[.int .i64 rs, .int .i64 rn], .int .i64 re] : Value) = .tuple #[.agg #[.int .i64 0, .int .i64 0], .int .i64 120]) (hyes : sE.toList = [] → bE = false → u1 = false → u2 = false → u3 = false → u4 = true → (.tuple #[.agg #[.int .i64 rs, .int .i64 rn], .int .i64 re] : Value) = .tuple #[.agg #[.int .i64 ((sd + 60) * 86400 + (3600 * h + 60 * mi + se - 60 * (60 * oh + om))), .int .i64 na], .int .i64 0]) :
    Calls Tryz.prog 50 #[.string s0] w fun e w' => e = .returned (.tuple #[.agg #[.int .i64 rs, .int .i64 rn], .int .i64 re]) ∧ Below w.heap.size w w' := by
  have hmf : ∀ (fn : Fn) (first cap : Array Value) (w : World), (Instr.makeFunc fn first cap).run Tryz.prog w = .ok (.func fn first cap) w := fun _ _ _ _ => rfl
  obtain ⟨w0, hw0⟩ : ∃ w0 : World, w0 = ((w.alloc (.cells #[.int .i64 0, .int .i64 0] 84 (0, 0))).alloc (.cells #[.string s0, .bool false] 116 (0, 0))) := ⟨_, rfl⟩
  have HT0 : Hid (TXc (w.heap.size + 1) s0 false w0) := Lib.hid (by rw [hw0]; exact heap_new _ _ _ (by simp))
  have HR0 : Hid (w0.heap[w.heap.size]? = some (.cells #[.int .i64 0, .int .i64 0] 84 (0, 0))) := Lib.hid (by rw [hw0]; exact heap_old (heap_new _ _ _ rfl))
  have HB0 : Hid (Below w.heap.size w w0) := Lib.hid (by rw [hw0]; exact ((Below.refl _ _).alloc (Nat.le_refl _) _).alloc (by simp) _)
  have hz0 : w.heap.size + 1 < w0.heap.size := HT0.out.lt
  go_enter Tryz.func50, Tryz.ntmps50
  go_wp2_with fail
  refine scope_once 0 rfl ?_
  go_wp2_with fail
  rw [← hw0]
  clear hw0
  refine (H0.out _ _ HT0.out).mono ?_; rintro e w1 ⟨rfl, ht, hk⟩
  have HT1 := Lib.hid ht
  have HR1 : Hid (w1.heap[w.heap.size]? = some (.cells #[.int .i64 0, .int .i64 0] 84 (0, 0))) := Lib.hid ((hk.2 w.heap.size (by omega) (by omega)).trans HR0.out)
  have HB1 : Hid (Below w.heap.size w w1) := Lib.hid (HB0.out.trans (hk.1.mono (by omega)))
  have hz1 : w.heap.size + 1 < w1.heap.size := ht.lt
  clear ht hk hz0
  go_wp2_with fail
  refine (H1.out _ _ HT1.out).mono ?_; rintro e w2 ⟨rfl, ht, hk⟩
  have HT2 := Lib.hid ht
  have HR2 : Hid (w2.heap[w.heap.size]? = some (.cells #[.int .i64 0, .int .i64 0] 84 (0, 0))) := Lib.hid ((hk.2 w.heap.size (by omega) (by omega)).trans HR1.out)
  have HB2 : Hid (Below w.heap.size w w2) := Lib.hid (HB1.out.trans (hk.1.mono (by omega)))
  have hz2 : w.heap.size + 1 < w2.heap.size := ht.lt
  clear ht hk hz1
  go_wp2_with fail
  refine (H2.out _ _ HT2.out).mono ?_; rintro e w3 ⟨rfl, ht, hk⟩
  have HT3 := Lib.hid ht
  have HR3 : Hid (w3.heap[w.heap.size]? = some (.cells #[.int .i64 0, .int .i64 0] 84 (0, 0))) := Lib.hid ((hk.2 w.heap.size (by omega) (by omega)).trans HR2.out)
  have HB3 : Hid (Below w.heap.size w w3) := Lib.hid (HB2.out.trans (hk.1.mono (by omega)))
  have hz3 : w.heap.size + 1 < w3.heap.size := ht.lt
  clear ht hk hz2
  go_wp2_with fail
  refine (H3.out _ _ HT3.out).mono ?_; rintro e w4 ⟨rfl, ht, hk⟩
  have HT4 := Lib.hid ht
  have HR4 : Hid (w4.heap[w.heap.size]? = some (.cells #[.int .i64 0, .int .i64 0] 84 (0, 0))) := Lib.hid ((hk.2 w.heap.size (by omega) (by omega)).trans HR3.out)
  have HB4 : Hid (Below w.heap.size w w4) := Lib.hid (HB3.out.trans (hk.1.mono (by omega)))
  have hz4 : w.heap.size + 1 < w4.heap.size := ht.lt
  clear ht hk hz3
  go_wp2_with fail
  refine (H4.out _ _ HT4.out).mono ?_; rintro e w5 ⟨rfl, ht, hk⟩
  have HT5 := Lib.hid ht
  have HR5 : Hid (w5.heap[w.heap.size]? = some (.cells #[.int .i64 0, .int .i64 0] 84 (0, 0))) := Lib.hid ((hk.2 w.heap.size (by omega) (by omega)).trans HR4.out)
  have HB5 : Hid (Below w.heap.size w w5) := Lib.hid (HB4.out.trans (hk.1.mono (by omega)))
  have hz5 : w.heap.size + 1 < w5.heap.size := ht.lt
  clear ht hk hz4
  go_wp2_with fail
  refine (H5.out _ _ HT5.out).mono ?_; rintro e w6 ⟨rfl, ht, hk⟩
  have HT6 := Lib.hid ht
  have HR6 : Hid (w6.heap[w.heap.size]? = some (.cells #[.int .i64 0, .int .i64 0] 84 (0, 0))) := Lib.hid ((hk.2 w.heap.size (by omega) (by omega)).trans HR5.out)
  have HB6 : Hid (Below w.heap.size w w6) := Lib.hid (HB5.out.trans (hk.1.mono (by omega)))
  have hz6 : w.heap.size + 1 < w6.heap.size := ht.lt
  clear ht hk hz5
  go_wp2_with fail
  refine (H6.out _ _ HT6.out).mono ?_; rintro e w7 ⟨rfl, ht, hk⟩
  have HT7 := Lib.hid ht
  have HR7 : Hid (w7.heap[w.heap.size]? = some (.cells #[.int .i64 0, .int .i64 0] 84 (0, 0))) := Lib.hid ((hk.2 w.heap.size (by omega) (by omega)).trans HR6.out)
  have HB7 : Hid (Below w.heap.size w w7) := Lib.hid (HB6.out.trans (hk.1.mono (by omega)))
  have hz7 : w.heap.size + 1 < w7.heap.size := ht.lt
  clear ht hk hz6
  go_wp2_with fail
  refine (H7.out _ _ HT7.out).mono ?_; rintro e w8 ⟨rfl, ht, hk⟩
  have HT8 := Lib.hid ht
  have HR8 : Hid (w8.heap[w.heap.size]? = some (.cells #[.int .i64 0, .int .i64 0] 84 (0, 0))) := Lib.hid ((hk.2 w.heap.size (by omega) (by omega)).trans HR7.out)
  have HB8 : Hid (Below w.heap.size w w8) := Lib.hid (HB7.out.trans (hk.1.mono (by omega)))
  have hz8 : w.heap.size + 1 < w8.heap.size := ht.lt
  clear ht hk hz7
  go_wp2_with fail
  refine (H8.out _ _ HT8.out).mono ?_; rintro e w9 ⟨rfl, ht, hk⟩
  have HT9 := Lib.hid ht
  have HR9 : Hid (w9.heap[w.heap.size]? = some (.cells #[.int .i64 0, .int .i64 0] 84 (0, 0))) := Lib.hid ((hk.2 w.heap.size (by omega) (by omega)).trans HR8.out)
  have HB9 : Hid (Below w.heap.size w w9) := Lib.hid (HB8.out.trans (hk.1.mono (by omega)))
  have hz9 : w.heap.size + 1 < w9.heap.size := ht.lt
  clear ht hk hz8
  go_wp2_with fail
  refine (H9.out _ _ HT9.out).mono ?_; rintro e w10 ⟨rfl, ht, hk⟩
  have HT10 := Lib.hid ht
  have HR10 : Hid (w10.heap[w.heap.size]? = some (.cells #[.int .i64 0, .int .i64 0] 84 (0, 0))) := Lib.hid ((hk.2 w.heap.size (by omega) (by omega)).trans HR9.out)
  have HB10 : Hid (Below w.heap.size w w10) := Lib.hid (HB9.out.trans (hk.1.mono (by omega)))
  have hz10 : w.heap.size + 1 < w10.heap.size := ht.lt
  clear ht hk hz9
  go_wp2_with fail
  refine (H10.out _ _ HT10.out).mono ?_; rintro e w11 ⟨rfl, ht, hk⟩
  have HT11 := Lib.hid ht
  have HR11 : Hid (w11.heap[w.heap.size]? = some (.cells #[.int .i64 0, .int .i64 0] 84 (0, 0))) := Lib.hid ((hk.2 w.heap.size (by omega) (by omega)).trans HR10.out)
  have HB11 : Hid (Below w.heap.size w w11) := Lib.hid (HB10.out.trans (hk.1.mono (by omega)))
  have hz11 : w.heap.size + 1 < w11.heap.size := ht.lt
  clear ht hk hz10
  go_wp2_with fail
  refine (H11.out _ _ HT11.out).mono ?_; rintro e w12 ⟨rfl, ht, hk⟩
  have HT12 := Lib.hid ht
  have HR12 : Hid (w12.heap[w.heap.size]? = some (.cells #[.int .i64 0, .int .i64 0] 84 (0, 0))) := Lib.hid ((hk.2 w.heap.size (by omega) (by omega)).trans HR11.out)
  have HB12 : Hid (Below w.heap.size w w12) := Lib.hid (HB11.out.trans (hk.1.mono (by omega)))
  have hz12 : w.heap.size + 1 < w12.heap.size := ht.lt
  clear ht hk hz11
  have e0 : w12.cell? ⟨w.heap.size, 1, none⟩ = some (.int .i64 0) := (Lib.cell_of_heap HR12.out 1).trans rfl
  have e1 : w12.frozen? ⟨w.heap.size, 1, none⟩ = false := Lib.frozen_of_heap HR12.out 1
  have HTv : Hid (TXc (w.heap.size + 1) s12 b12 (w12.setCell ⟨w.heap.size, 1, none⟩ (.int .i64 na))) := Lib.hid (by show _ = _; rw [Below.heap_setCell _ _ _ _ (show w.heap.size + 1 ≠ w.heap.size by omega)]; exact HT12.out)
  have HRv : Hid ((w12.setCell ⟨w.heap.size, 1, none⟩ (.int .i64 na)).heap[w.heap.size]? = some (.cells #[.int .i64 0, .int .i64 na] 84 (0, 0))) := Lib.hid (on_pset HR12.out _ rfl)
  have HBv : Hid (Below w.heap.size w (w12.setCell ⟨w.heap.size, 1, none⟩ (.int .i64 na))) := Lib.hid (HB12.out.setCell (p := ⟨w.heap.size, 1, none⟩) (Nat.le_refl w.heap.size) (.int .i64 na))
  have hzv : w.heap.size + 1 < (w12.setCell ⟨w.heap.size, 1, none⟩ (.int .i64 na)).heap.size := HTv.out.lt
  go_wp2_with fail
  refine (H12.out _ _ HTv.out).mono ?_; rintro e w13 ⟨rfl, ht, hk⟩
  have HT13 := Lib.hid ht
  have HR13 : Hid (w13.heap[w.heap.size]? = some (.cells #[.int .i64 0, .int .i64 na] 84 (0, 0))) := Lib.hid ((hk.2 w.heap.size (by omega) (by omega)).trans HRv.out)
  have HB13 : Hid (Below w.heap.size w w13) := Lib.hid (HBv.out.trans (hk.1.mono (by omega)))
  have hz13 : w.heap.size + 1 < w13.heap.size := ht.lt
  clear ht hk hz12 hzv e0 e1
  go_wp2_with fail
  refine (H13.out _ _ HT13.out).mono ?_; rintro e w14 ⟨rfl, ht, hk⟩
  have HT14 := Lib.hid ht
  have HR14 : Hid (w14.heap[w.heap.size]? = some (.cells #[.int .i64 0, .int .i64 na] 84 (0, 0))) := Lib.hid ((hk.2 w.heap.size (by omega) (by omega)).trans HR13.out)
  have HB14 : Hid (Below w.heap.size w w14) := Lib.hid (HB13.out.trans (hk.1.mono (by omega)))
  have hz14 : w.heap.size + 1 < w14.heap.size := ht.lt
  clear ht hk hz13
  go_wp2_with fail
  refine (H14.out _ _ HT14.out).mono ?_; rintro e w15 ⟨rfl, ht, hk⟩
  have HT15 := Lib.hid ht
  have HR15 : Hid (w15.heap[w.heap.size]? = some (.cells #[.int .i64 0, .int .i64 na] 84 (0, 0))) := Lib.hid ((hk.2 w.heap.size (by omega) (by omega)).trans HR14.out)
  have HB15 : Hid (Below w.heap.size w w15) := Lib.hid (HB14.out.trans (hk.1.mono (by omega)))
  have hz15 : w.heap.size + 1 < w15.heap.size := ht.lt
  clear ht hk hz14
  go_wp2_with fail
  refine (H15.out _ _ HT15.out).mono ?_; rintro e w16 ⟨rfl, ht, hk⟩
  have HT16 := Lib.hid ht
  have HR16 : Hid (w16.heap[w.heap.size]? = some (.cells #[.int .i64 0, .int .i64 na] 84 (0, 0))) := Lib.hid ((hk.2 w.heap.size (by omega) (by omega)).trans HR15.out)
  have HB16 : Hid (Below w.heap.size w w16) := Lib.hid (HB15.out.trans (hk.1.mono (by omega)))
  have hz16 : w.heap.size + 1 < w16.heap.size := ht.lt
  clear ht hk hz15
  have c0 := HT16.out.c0
  have c1 := HT16.out.c1
  have r0 : w16.cell? ⟨w.heap.size, 0, none⟩ = some (.int .i64 0) := (Lib.cell_of_heap HR16.out 0).trans rfl
  have r1 : w16.cell? ⟨w.heap.size, 1, none⟩ = some (.int .i64 na) := (Lib.cell_of_heap HR16.out 1).trans rfl
  have g0 : w16.frozen? ⟨w.heap.size, 0, none⟩ = false := Lib.frozen_of_heap HR16.out 0
  have g1 : w16.frozen? ⟨w.heap.size, 1, none⟩ = false := Lib.frozen_of_heap HR16.out 1
  cases bE with
  | true =>
    have HG := Lib.hid (hno (by simp))
    clear hno
    go_wp2_with fail
    go_step3
    go_wp2_with fail
    refine goto_jump ?_
    go_wp2_with fail
    rw [Exit.noGoto_ret]
    refine bodyPost_ret (v := .tuple #[.agg #[.int .i64 0, .int .i64 0], .int .i64 120]) (by simp [results, Tryz.results50, go_sem, r0, r1, g0, g1]; try rfl) rfl ?_
    exact ⟨by rw [HG.out], (HB16.out.setCell (p := ⟨w.heap.size, 0, none⟩) (Nat.le_refl w.heap.size) _).setCell (p := ⟨w.heap.size, 1, none⟩) (Nat.le_refl w.heap.size) _⟩
  | false =>
    by_cases hsE : sE.toList = []
    · obtain rfl := hnil hsE
      cases u1 with
      | true =>
        have HG := Lib.hid (hno (by simp))
        clear hno hsE
        go_wp2_with fail
        refine (HS.out _).mono ?_; rintro e x1 ⟨rfl, rfl⟩
        go_wp2_with fail
        refine (HD.out _).mono ?_; rintro e x1 ⟨rfl, rfl⟩
        go_wp2_with fail
        go_step3
        go_wp2_with fail
        refine goto_jump ?_
        go_wp2_with fail
        rw [Exit.noGoto_ret]
        refine bodyPost_ret (v := .tuple #[.agg #[.int .i64 0, .int .i64 0], .int .i64 120]) (by simp [results, Tryz.results50, go_sem, r0, r1, g0, g1]; try rfl) rfl ?_
        exact ⟨by rw [HG.out], (HB16.out.setCell (p := ⟨w.heap.size, 0, none⟩) (Nat.le_refl w.heap.size) _).setCell (p := ⟨w.heap.size, 1, none⟩) (Nat.le_refl w.heap.size) _⟩
      | false =>
        cases u2 with
        | true =>
          have HG := Lib.hid (hno (by simp))
          clear hno hsE
          go_wp2_with fail
          refine (HS.out _).mono ?_; rintro e x1 ⟨rfl, rfl⟩
          go_wp2_with fail
          refine (HD.out _).mono ?_; rintro e x1 ⟨rfl, rfl⟩
          go_wp2_with fail
          go_step3
          go_wp2_with fail
          refine goto_jump ?_
          go_wp2_with fail
          rw [Exit.noGoto_ret]
          refine bodyPost_ret (v := .tuple #[.agg #[.int .i64 0, .int .i64 0], .int .i64 120]) (by simp [results, Tryz.results50, go_sem, r0, r1, g0, g1]; try rfl) rfl ?_
          exact ⟨by rw [HG.out], (HB16.out.setCell (p := ⟨w.heap.size, 0, none⟩) (Nat.le_refl w.heap.size) _).setCell (p := ⟨w.heap.size, 1, none⟩) (Nat.le_refl w.heap.size) _⟩
        | false =>
          cases u3 with
          | true =>
            have HG := Lib.hid (hno (by simp))
            clear hno hsE
            go_wp2_with fail
            refine (HS.out _).mono ?_; rintro e x1 ⟨rfl, rfl⟩
            go_wp2_with fail
            refine (HD.out _).mono ?_; rintro e x1 ⟨rfl, rfl⟩
            go_wp2_with fail
            go_step3
            go_wp2_with fail
            refine goto_jump ?_
            go_wp2_with fail
            rw [Exit.noGoto_ret]
            refine bodyPost_ret (v := .tuple #[.agg #[.int .i64 0, .int .i64 0], .int .i64 120]) (by simp [results, Tryz.results50, go_sem, r0, r1, g0, g1]; try rfl) rfl ?_
            exact ⟨by rw [HG.out], (HB16.out.setCell (p := ⟨w.heap.size, 0, none⟩) (Nat.le_refl w.heap.size) _).setCell (p := ⟨w.heap.size, 1, none⟩) (Nat.le_refl w.heap.size) _⟩
          | false =>
            cases u4 with
            | false =>
              have HG := Lib.hid (hno (by simp))
              clear hno hsE
              go_wp2_with fail
              refine (HS.out _).mono ?_; rintro e x1 ⟨rfl, rfl⟩
              go_wp2_with fail
              refine (HD.out _).mono ?_; rintro e x1 ⟨rfl, rfl⟩
              go_wp2_with fail
              refine (HS.out _).mono ?_; rintro e x1 ⟨rfl, rfl⟩
              go_wp2_with fail
              have HRs : Hid ((w16.setCell ⟨w.heap.size, 0, none⟩ (.int .i64 ((sd + 60) * 86400 + (3600 * h + 60 * mi + se - 60 * (60 * oh + om))))).heap[w.heap.size]? = some (.cells #[.int .i64 ((sd + 60) * 86400 + (3600 * h + 60 * mi + se - 60 * (60 * oh + om))), .int .i64 na] 84 (0, 0))) := Lib.hid (on_pset HR16.out _ rfl)
              have HBs : Hid (Below w.heap.size w (w16.setCell ⟨w.heap.size, 0, none⟩ (.int .i64 ((sd + 60) * 86400 + (3600 * h + 60 * mi + se - 60 * (60 * oh + om)))))) := Lib.hid (HB16.out.setCell (p := ⟨w.heap.size, 0, none⟩) (Nat.le_refl w.heap.size) _)
              (with_reducible refine (HCK.out _).mono ?_); rintro e x2 ⟨rfl, hb⟩
              have HR2 : Hid (x2.heap[w.heap.size]? = some (.cells #[.int .i64 ((sd + 60) * 86400 + (3600 * h + 60 * mi + se - 60 * (60 * oh + om))), .int .i64 na] 84 (0, 0))) := Lib.hid ((hb.block w.heap.size (heap_lt HRs.out)).trans HRs.out)
              have HB2 : Hid (Below w.heap.size w x2) := Lib.hid (HBs.out.trans (hb.mono HBs.out.size))
              clear hb r0 r1 g0 g1 c0 c1
              have r0 : x2.cell? ⟨w.heap.size, 0, none⟩ = some (.int .i64 ((sd + 60) * 86400 + (3600 * h + 60 * mi + se - 60 * (60 * oh + om)))) := (Lib.cell_of_heap HR2.out 0).trans rfl
              have r1 : x2.cell? ⟨w.heap.size, 1, none⟩ = some (.int .i64 na) := (Lib.cell_of_heap HR2.out 1).trans rfl
              have g0 : x2.frozen? ⟨w.heap.size, 0, none⟩ = false := Lib.frozen_of_heap HR2.out 0
              have g1 : x2.frozen? ⟨w.heap.size, 1, none⟩ = false := Lib.frozen_of_heap HR2.out 1
              go_wp2_with fail
              go_step3
              go_wp2_with fail
              rw [jump_ret]
              refine bodyPost_ret (v := .tuple #[.agg #[.int .i64 0, .int .i64 0], .int .i64 120]) (by simp [results, Tryz.results50, go_sem, r0, r1, g0, g1]; try rfl) rfl ?_
              exact ⟨by rw [HG.out], (HB2.out.setCell (p := ⟨w.heap.size, 0, none⟩) (Nat.le_refl w.heap.size) _).setCell (p := ⟨w.heap.size, 1, none⟩) (Nat.le_refl w.heap.size) _⟩
            | true =>
              have HG := Lib.hid (hyes hsE rfl rfl rfl rfl rfl)
              clear hno hsE
              go_wp2_with fail
              refine (HS.out _).mono ?_; rintro e x1 ⟨rfl, rfl⟩
              go_wp2_with fail
              refine (HD.out _).mono ?_; rintro e x1 ⟨rfl, rfl⟩
              go_wp2_with fail
              refine (HS.out _).mono ?_; rintro e x1 ⟨rfl, rfl⟩
              go_wp2_with fail
              have HRs : Hid ((w16.setCell ⟨w.heap.size, 0, none⟩ (.int .i64 ((sd + 60) * 86400 + (3600 * h + 60 * mi + se - 60 * (60 * oh + om))))).heap[w.heap.size]? = some (.cells #[.int .i64 ((sd + 60) * 86400 + (3600 * h + 60 * mi + se - 60 * (60 * oh + om))), .int .i64 na] 84 (0, 0))) := Lib.hid (on_pset HR16.out _ rfl)
              have HBs : Hid (Below w.heap.size w (w16.setCell ⟨w.heap.size, 0, none⟩ (.int .i64 ((sd + 60) * 86400 + (3600 * h + 60 * mi + se - 60 * (60 * oh + om)))))) := Lib.hid (HB16.out.setCell (p := ⟨w.heap.size, 0, none⟩) (Nat.le_refl w.heap.size) _)
              (with_reducible refine (HCK.out _).mono ?_); rintro e x2 ⟨rfl, hb⟩
              have HR2 : Hid (x2.heap[w.heap.size]? = some (.cells #[.int .i64 ((sd + 60) * 86400 + (3600 * h + 60 * mi + se - 60 * (60 * oh + om))), .int .i64 na] 84 (0, 0))) := Lib.hid ((hb.block w.heap.size (heap_lt HRs.out)).trans HRs.out)
              have HB2 : Hid (Below w.heap.size w x2) := Lib.hid (HBs.out.trans (hb.mono HBs.out.size))
              clear hb r0 r1 g0 g1 c0 c1
              have r0 : x2.cell? ⟨w.heap.size, 0, none⟩ = some (.int .i64 ((sd + 60) * 86400 + (3600 * h + 60 * mi + se - 60 * (60 * oh + om)))) := (Lib.cell_of_heap HR2.out 0).trans rfl
              have r1 : x2.cell? ⟨w.heap.size, 1, none⟩ = some (.int .i64 na) := (Lib.cell_of_heap HR2.out 1).trans rfl
              have g0 : x2.frozen? ⟨w.heap.size, 0, none⟩ = false := Lib.frozen_of_heap HR2.out 0
              have g1 : x2.frozen? ⟨w.heap.size, 1, none⟩ = false := Lib.frozen_of_heap HR2.out 1
              go_wp2_with fail
              rw [jump_ret]
              refine bodyPost_ret (v := .tuple #[.agg #[.int .i64 ((sd + 60) * 86400 + (3600 * h + 60 * mi + se - 60 * (60 * oh + om))), .int .i64 na], .int .i64 0]) (by simp [results, Tryz.results50, go_sem, r0, r1, g0, g1]; try rfl) rfl ?_
              exact ⟨by rw [HG.out], (HB2.out.setCell (p := ⟨w.heap.size, 0, none⟩) (Nat.le_refl w.heap.size) _).setCell (p := ⟨w.heap.size, 1, none⟩) (Nat.le_refl w.heap.size) _⟩
    · have hs2 : sE.toList.isEmpty = false := by simpa using hsE
      have HG := Lib.hid (hno (by simp [hsE]))
      clear hno
      go_wp2_with fail
      go_step3
      go_wp2_with fail
      refine goto_jump ?_
      go_wp2_with fail
      rw [Exit.noGoto_ret]
      refine bodyPost_ret (v := .tuple #[.agg #[.int .i64 0, .int .i64 0], .int .i64 120]) (by simp [results, Tryz.results50, go_sem, r0, r1, g0, g1]; try rfl) rfl ?_
      exact ⟨by rw [HG.out], (HB16.out.setCell (p := ⟨w.heap.size, 0, none⟩) (Nat.le_refl w.heap.size) _).setCell (p := ⟨w.heap.size, 1, none⟩) (Nat.le_refl w.heap.size) _⟩
end Go.Proofs.YtjhgiojmlkeccaaGreatDoor
namespace Go.Proofs.YtjhgiojmlkeccaaGreatDoor
open Go.RowKit Go.Shelf
set_option maxRecDepth 100000 in
set_option maxHeartbeats 8000000 in
theorem dparse_m (s0 s1 s2 s3 s4 s5 s6 s7 s8 s9 s10 s11 s12 s13 s14 s15 sE : ByteArray) (b1 b2 b3 b4 b5 b6 b7 b8 b9 b10 b11 b12 b13 b14 b15 bE : Bool) (y q1 mo q2 d q3 h q4 mi q5 se na oh q6 om : Int) (hy0 : 0 ≤ y) (hy1 : y ≤ 9999) (hm0 : 1 ≤ mo) (hm1 : mo ≤ 12) (hd0 : 1 ≤ d) (hd1 : d ≤ 31) (hh0 : 0 ≤ h) (hh1 : h ≤ 23) (hi0 : 0 ≤ mi) (hi1 : mi ≤ 59) (hs0 : 0 ≤ se) (hs1 : se ≤ 59) (sd : Int) (hsd0 : -1000 ≤ sd) (hsd1 : sd ≤ 4000000) (dy dm dd ck : Int) (u1 u2 u3 u4 : Bool) (rs rn re : Int) (hu1 : (dy != y) = u1) (hu2 : (dm != mo) = u2) (hu3 : (dd != d) = u3) (hu4 : (ck == 0) = u4) (w : World) (H0 : Hid (DNum 4 0 9999 y s0 false s1 b1)) (H1 : Hid (DMark ⟨#[45]⟩ q1 s1 b1 s2 b2)) (H2 : Hid (DNum 2 1 12 mo s2 b2 s3 b3)) (H3 : Hid (DMark ⟨#[45]⟩ q2 s3 b3 s4 b4)) (H4 : Hid (DNum 2 1 31 d s4 b4 s5 b5)) (H5 : Hid (DMark ⟨#[84, 116]⟩ q3 s5 b5 s6 b6)) (H6 : Hid (DNum 2 0 23 h s6 b6 s7 b7)) (H7 : Hid (DMark ⟨#[58]⟩ q4 s7 b7 s8 b8)) (H8 : Hid (DNum 2 0 59 mi s8 b8 s9 b9)) (H9 : Hid (DMark ⟨#[58]⟩ q5 s9 b9 s10 b10)) (H10 : Hid (DNum 2 0 59 se s10 b10 s11 b11)) (H11 : Hid (DFrac na s11 b11 s12 b12)) (H12 : Hid (DMark ⟨#[90, 122, 43, 45]⟩ 45 s12 b12 s13 b13)) (H13 : Hid (DNum 2 0 23 oh s13 b13 s14 b14)) (H14 : Hid (DMark ⟨#[58]⟩ q6 s14 b14 s15 b15)) (H15 : Hid (DNum 2 0 59 om s15 b15 sE bE)) (HS : Hid (∀ W, Calls Tryz.prog 75 #[.int .i64 y, .int .i64 mo, .int .i64 d] W fun e w' => e = .returned (.int .i64 sd) ∧ W = w')) (HD : Hid (∀ W, Calls Tryz.prog 74 #[.int .i64 sd] W fun e w' => e = .returned (.tuple #[.int .i64 dy, .int .i64 dm, .int .i64 dd]) ∧ W = w'))
    (HCK : Hid (∀ W, Calls Tryz.prog 76 #[.agg #[.int .i64 ((sd + 60) * 86400 + (3600 * h + 60 * mi + se - 60 * -(60 * oh + om))), .int .i64 na]] W fun e w' => e = .returned (.int .i64 ck) ∧ Below W.heap.size W w')) (ho0 : 0 ≤ oh) (ho1 : oh ≤ 23) (hp0 : 0 ≤ om) (hp1 : om ≤ 59)
    (hnil : sE.toList = [] → sE = ⟨#[]⟩) (hno : (bE = true ∨ ¬ sE.toList = [] ∨ u1 = true ∨ u2 = true ∨ u3 = true ∨ u4 = false) → (.tuple #[.agg #[.int .i64 rs, .int .i64 rn], .int .i64 re] : Value) = .tuple #[.agg #[.int .i64 0, .int .i64 0], .int .i64 120]) (hyes : sE.toList = [] → bE = false → u1 = false → u2 = false → u3 = false → u4 = true → (.tuple #[.agg #[.int .i64 rs, .int .i64 rn], .int .i64 re] : Value) = .tuple #[.agg #[.int .i64 ((sd + 60) * 86400 + (3600 * h + 60 * mi + se - 60 * -(60 * oh + om))), .int .i64 na], .int .i64 0]) :
    Calls Tryz.prog 50 #[.string s0] w fun e w' => e = .returned (.tuple #[.agg #[.int .i64 rs, .int .i64 rn], .int .i64 re]) ∧ Below w.heap.size w w' := by
  have hmf : ∀ (fn : Fn) (first cap : Array Value) (w : World), (Instr.makeFunc fn first cap).run Tryz.prog w = .ok (.func fn first cap) w := fun _ _ _ _ => rfl
  obtain ⟨w0, hw0⟩ : ∃ w0 : World, w0 = ((w.alloc (.cells #[.int .i64 0, .int .i64 0] 84 (0, 0))).alloc (.cells #[.string s0, .bool false] 116 (0, 0))) := ⟨_, rfl⟩
  have HT0 : Hid (TXc (w.heap.size + 1) s0 false w0) := Lib.hid (by rw [hw0]; exact heap_new _ _ _ (by simp))
  have HR0 : Hid (w0.heap[w.heap.size]? = some (.cells #[.int .i64 0, .int .i64 0] 84 (0, 0))) := Lib.hid (by rw [hw0]; exact heap_old (heap_new _ _ _ rfl))
  have HB0 : Hid (Below w.heap.size w w0) := Lib.hid (by rw [hw0]; exact ((Below.refl _ _).alloc (Nat.le_refl _) _).alloc (by simp) _)
  have hz0 : w.heap.size + 1 < w0.heap.size := HT0.out.lt
  go_enter Tryz.func50, Tryz.ntmps50
  go_wp2_with fail
  refine scope_once 0 rfl ?_
  go_wp2_with fail
  rw [← hw0]
  clear hw0
  refine (H0.out _ _ HT0.out).mono ?_; rintro e w1 ⟨rfl, ht, hk⟩
  have HT1 := Lib.hid ht
  have HR1 : Hid (w1.heap[w.heap.size]? = some (.cells #[.int .i64 0, .int .i64 0] 84 (0, 0))) := Lib.hid ((hk.2 w.heap.size (by omega) (by omega)).trans HR0.out)
  have HB1 : Hid (Below w.heap.size w w1) := Lib.hid (HB0.out.trans (hk.1.mono (by omega)))
  have hz1 : w.heap.size + 1 < w1.heap.size := ht.lt
  clear ht hk hz0
  go_wp2_with fail
  refine (H1.out _ _ HT1.out).mono ?_; rintro e w2 ⟨rfl, ht, hk⟩
  have HT2 := Lib.hid ht
  have HR2 : Hid (w2.heap[w.heap.size]? = some (.cells #[.int .i64 0, .int .i64 0] 84 (0, 0))) := Lib.hid ((hk.2 w.heap.size (by omega) (by omega)).trans HR1.out)
  have HB2 : Hid (Below w.heap.size w w2) := Lib.hid (HB1.out.trans (hk.1.mono (by omega)))
  have hz2 : w.heap.size + 1 < w2.heap.size := ht.lt
  clear ht hk hz1
  go_wp2_with fail
  refine (H2.out _ _ HT2.out).mono ?_; rintro e w3 ⟨rfl, ht, hk⟩
  have HT3 := Lib.hid ht
  have HR3 : Hid (w3.heap[w.heap.size]? = some (.cells #[.int .i64 0, .int .i64 0] 84 (0, 0))) := Lib.hid ((hk.2 w.heap.size (by omega) (by omega)).trans HR2.out)
  have HB3 : Hid (Below w.heap.size w w3) := Lib.hid (HB2.out.trans (hk.1.mono (by omega)))
  have hz3 : w.heap.size + 1 < w3.heap.size := ht.lt
  clear ht hk hz2
  go_wp2_with fail
  refine (H3.out _ _ HT3.out).mono ?_; rintro e w4 ⟨rfl, ht, hk⟩
  have HT4 := Lib.hid ht
  have HR4 : Hid (w4.heap[w.heap.size]? = some (.cells #[.int .i64 0, .int .i64 0] 84 (0, 0))) := Lib.hid ((hk.2 w.heap.size (by omega) (by omega)).trans HR3.out)
  have HB4 : Hid (Below w.heap.size w w4) := Lib.hid (HB3.out.trans (hk.1.mono (by omega)))
  have hz4 : w.heap.size + 1 < w4.heap.size := ht.lt
  clear ht hk hz3
  go_wp2_with fail
  refine (H4.out _ _ HT4.out).mono ?_; rintro e w5 ⟨rfl, ht, hk⟩
  have HT5 := Lib.hid ht
  have HR5 : Hid (w5.heap[w.heap.size]? = some (.cells #[.int .i64 0, .int .i64 0] 84 (0, 0))) := Lib.hid ((hk.2 w.heap.size (by omega) (by omega)).trans HR4.out)
  have HB5 : Hid (Below w.heap.size w w5) := Lib.hid (HB4.out.trans (hk.1.mono (by omega)))
  have hz5 : w.heap.size + 1 < w5.heap.size := ht.lt
  clear ht hk hz4
  go_wp2_with fail
  refine (H5.out _ _ HT5.out).mono ?_; rintro e w6 ⟨rfl, ht, hk⟩
  have HT6 := Lib.hid ht
  have HR6 : Hid (w6.heap[w.heap.size]? = some (.cells #[.int .i64 0, .int .i64 0] 84 (0, 0))) := Lib.hid ((hk.2 w.heap.size (by omega) (by omega)).trans HR5.out)
  have HB6 : Hid (Below w.heap.size w w6) := Lib.hid (HB5.out.trans (hk.1.mono (by omega)))
  have hz6 : w.heap.size + 1 < w6.heap.size := ht.lt
  clear ht hk hz5
  go_wp2_with fail
  refine (H6.out _ _ HT6.out).mono ?_; rintro e w7 ⟨rfl, ht, hk⟩
  have HT7 := Lib.hid ht
  have HR7 : Hid (w7.heap[w.heap.size]? = some (.cells #[.int .i64 0, .int .i64 0] 84 (0, 0))) := Lib.hid ((hk.2 w.heap.size (by omega) (by omega)).trans HR6.out)
  have HB7 : Hid (Below w.heap.size w w7) := Lib.hid (HB6.out.trans (hk.1.mono (by omega)))
  have hz7 : w.heap.size + 1 < w7.heap.size := ht.lt
  clear ht hk hz6
  go_wp2_with fail
  refine (H7.out _ _ HT7.out).mono ?_; rintro e w8 ⟨rfl, ht, hk⟩
  have HT8 := Lib.hid ht
  have HR8 : Hid (w8.heap[w.heap.size]? = some (.cells #[.int .i64 0, .int .i64 0] 84 (0, 0))) := Lib.hid ((hk.2 w.heap.size (by omega) (by omega)).trans HR7.out)
  have HB8 : Hid (Below w.heap.size w w8) := Lib.hid (HB7.out.trans (hk.1.mono (by omega)))
  have hz8 : w.heap.size + 1 < w8.heap.size := ht.lt
  clear ht hk hz7
  go_wp2_with fail
  refine (H8.out _ _ HT8.out).mono ?_; rintro e w9 ⟨rfl, ht, hk⟩
  have HT9 := Lib.hid ht
  have HR9 : Hid (w9.heap[w.heap.size]? = some (.cells #[.int .i64 0, .int .i64 0] 84 (0, 0))) := Lib.hid ((hk.2 w.heap.size (by omega) (by omega)).trans HR8.out)
  have HB9 : Hid (Below w.heap.size w w9) := Lib.hid (HB8.out.trans (hk.1.mono (by omega)))
  have hz9 : w.heap.size + 1 < w9.heap.size := ht.lt
  clear ht hk hz8
  go_wp2_with fail
  refine (H9.out _ _ HT9.out).mono ?_; rintro e w10 ⟨rfl, ht, hk⟩
  have HT10 := Lib.hid ht
  have HR10 : Hid (w10.heap[w.heap.size]? = some (.cells #[.int .i64 0, .int .i64 0] 84 (0, 0))) := Lib.hid ((hk.2 w.heap.size (by omega) (by omega)).trans HR9.out)
  have HB10 : Hid (Below w.heap.size w w10) := Lib.hid (HB9.out.trans (hk.1.mono (by omega)))
  have hz10 : w.heap.size + 1 < w10.heap.size := ht.lt
  clear ht hk hz9
  go_wp2_with fail
  refine (H10.out _ _ HT10.out).mono ?_; rintro e w11 ⟨rfl, ht, hk⟩
  have HT11 := Lib.hid ht
  have HR11 : Hid (w11.heap[w.heap.size]? = some (.cells #[.int .i64 0, .int .i64 0] 84 (0, 0))) := Lib.hid ((hk.2 w.heap.size (by omega) (by omega)).trans HR10.out)
  have HB11 : Hid (Below w.heap.size w w11) := Lib.hid (HB10.out.trans (hk.1.mono (by omega)))
  have hz11 : w.heap.size + 1 < w11.heap.size := ht.lt
  clear ht hk hz10
  go_wp2_with fail
  refine (H11.out _ _ HT11.out).mono ?_; rintro e w12 ⟨rfl, ht, hk⟩
  have HT12 := Lib.hid ht
  have HR12 : Hid (w12.heap[w.heap.size]? = some (.cells #[.int .i64 0, .int .i64 0] 84 (0, 0))) := Lib.hid ((hk.2 w.heap.size (by omega) (by omega)).trans HR11.out)
  have HB12 : Hid (Below w.heap.size w w12) := Lib.hid (HB11.out.trans (hk.1.mono (by omega)))
  have hz12 : w.heap.size + 1 < w12.heap.size := ht.lt
  clear ht hk hz11
  have e0 : w12.cell? ⟨w.heap.size, 1, none⟩ = some (.int .i64 0) := (Lib.cell_of_heap HR12.out 1).trans rfl
  have e1 : w12.frozen? ⟨w.heap.size, 1, none⟩ = false := Lib.frozen_of_heap HR12.out 1
  have HTv : Hid (TXc (w.heap.size + 1) s12 b12 (w12.setCell ⟨w.heap.size, 1, none⟩ (.int .i64 na))) := Lib.hid (by show _ = _; rw [Below.heap_setCell _ _ _ _ (show w.heap.size + 1 ≠ w.heap.size by omega)]; exact HT12.out)
  have HRv : Hid ((w12.setCell ⟨w.heap.size, 1, none⟩ (.int .i64 na)).heap[w.heap.size]? = some (.cells #[.int .i64 0, .int .i64 na] 84 (0, 0))) := Lib.hid (on_pset HR12.out _ rfl)
  have HBv : Hid (Below w.heap.size w (w12.setCell ⟨w.heap.size, 1, none⟩ (.int .i64 na))) := Lib.hid (HB12.out.setCell (p := ⟨w.heap.size, 1, none⟩) (Nat.le_refl w.heap.size) (.int .i64 na))
  have hzv : w.heap.size + 1 < (w12.setCell ⟨w.heap.size, 1, none⟩ (.int .i64 na)).heap.size := HTv.out.lt
  go_wp2_with fail
  refine (H12.out _ _ HTv.out).mono ?_; rintro e w13 ⟨rfl, ht, hk⟩
  have HT13 := Lib.hid ht
  have HR13 : Hid (w13.heap[w.heap.size]? = some (.cells #[.int .i64 0, .int .i64 na] 84 (0, 0))) := Lib.hid ((hk.2 w.heap.size (by omega) (by omega)).trans HRv.out)
  have HB13 : Hid (Below w.heap.size w w13) := Lib.hid (HBv.out.trans (hk.1.mono (by omega)))
  have hz13 : w.heap.size + 1 < w13.heap.size := ht.lt
  clear ht hk hz12 hzv e0 e1
  go_wp2_with fail
  refine (H13.out _ _ HT13.out).mono ?_; rintro e w14 ⟨rfl, ht, hk⟩
  have HT14 := Lib.hid ht
  have HR14 : Hid (w14.heap[w.heap.size]? = some (.cells #[.int .i64 0, .int .i64 na] 84 (0, 0))) := Lib.hid ((hk.2 w.heap.size (by omega) (by omega)).trans HR13.out)
  have HB14 : Hid (Below w.heap.size w w14) := Lib.hid (HB13.out.trans (hk.1.mono (by omega)))
  have hz14 : w.heap.size + 1 < w14.heap.size := ht.lt
  clear ht hk hz13
  go_wp2_with fail
  refine (H14.out _ _ HT14.out).mono ?_; rintro e w15 ⟨rfl, ht, hk⟩
  have HT15 := Lib.hid ht
  have HR15 : Hid (w15.heap[w.heap.size]? = some (.cells #[.int .i64 0, .int .i64 na] 84 (0, 0))) := Lib.hid ((hk.2 w.heap.size (by omega) (by omega)).trans HR14.out)
  have HB15 : Hid (Below w.heap.size w w15) := Lib.hid (HB14.out.trans (hk.1.mono (by omega)))
  have hz15 : w.heap.size + 1 < w15.heap.size := ht.lt
  clear ht hk hz14
  go_wp2_with fail
  refine (H15.out _ _ HT15.out).mono ?_; rintro e w16 ⟨rfl, ht, hk⟩
  have HT16 := Lib.hid ht
  have HR16 : Hid (w16.heap[w.heap.size]? = some (.cells #[.int .i64 0, .int .i64 na] 84 (0, 0))) := Lib.hid ((hk.2 w.heap.size (by omega) (by omega)).trans HR15.out)
  have HB16 : Hid (Below w.heap.size w w16) := Lib.hid (HB15.out.trans (hk.1.mono (by omega)))
  have hz16 : w.heap.size + 1 < w16.heap.size := ht.lt
  clear ht hk hz15
  have c0 := HT16.out.c0
  have c1 := HT16.out.c1
  have r0 : w16.cell? ⟨w.heap.size, 0, none⟩ = some (.int .i64 0) := (Lib.cell_of_heap HR16.out 0).trans rfl
  have r1 : w16.cell? ⟨w.heap.size, 1, none⟩ = some (.int .i64 na) := (Lib.cell_of_heap HR16.out 1).trans rfl
  have g0 : w16.frozen? ⟨w.heap.size, 0, none⟩ = false := Lib.frozen_of_heap HR16.out 0
  have g1 : w16.frozen? ⟨w.heap.size, 1, none⟩ = false := Lib.frozen_of_heap HR16.out 1
  cases bE with
  | true =>
    have HG := Lib.hid (hno (by simp))
    clear hno
    go_wp2_with fail
    go_step3
    go_wp2_with fail
    refine goto_jump ?_
    go_wp2_with fail
    rw [Exit.noGoto_ret]
    refine bodyPost_ret (v := .tuple #[.agg #[.int .i64 0, .int .i64 0], .int .i64 120]) (by simp [results, Tryz.results50, go_sem, r0, r1, g0, g1]; try rfl) rfl ?_
    exact ⟨by rw [HG.out], (HB16.out.setCell (p := ⟨w.heap.size, 0, none⟩) (Nat.le_refl w.heap.size) _).setCell (p := ⟨w.heap.size, 1, none⟩) (Nat.le_refl w.heap.size) _⟩
  | false =>
    by_cases hsE : sE.toList = []
    · obtain rfl := hnil hsE
      cases u1 with
      | true =>
        have HG := Lib.hid (hno (by simp))
        clear hno hsE
        go_wp2_with fail
        refine (HS.out _).mono ?_; rintro e x1 ⟨rfl, rfl⟩
        go_wp2_with fail
        refine (HD.out _).mono ?_; rintro e x1 ⟨rfl, rfl⟩
        go_wp2_with fail
        go_step3
        go_wp2_with fail
        refine goto_jump ?_
        go_wp2_with fail
        rw [Exit.noGoto_ret]
        refine bodyPost_ret (v := .tuple #[.agg #[.int .i64 0, .int .i64 0], .int .i64 120]) (by simp [results, Tryz.results50, go_sem, r0, r1, g0, g1]; try rfl) rfl ?_
        exact ⟨by rw [HG.out], (HB16.out.setCell (p := ⟨w.heap.size, 0, none⟩) (Nat.le_refl w.heap.size) _).setCell (p := ⟨w.heap.size, 1, none⟩) (Nat.le_refl w.heap.size) _⟩
      | false =>
        cases u2 with
        | true =>
          have HG := Lib.hid (hno (by simp))
          clear hno hsE
          go_wp2_with fail
          refine (HS.out _).mono ?_; rintro e x1 ⟨rfl, rfl⟩
          go_wp2_with fail
          refine (HD.out _).mono ?_; rintro e x1 ⟨rfl, rfl⟩
          go_wp2_with fail
          go_step3
          go_wp2_with fail
          refine goto_jump ?_
          go_wp2_with fail
          rw [Exit.noGoto_ret]
          refine bodyPost_ret (v := .tuple #[.agg #[.int .i64 0, .int .i64 0], .int .i64 120]) (by simp [results, Tryz.results50, go_sem, r0, r1, g0, g1]; try rfl) rfl ?_
          exact ⟨by rw [HG.out], (HB16.out.setCell (p := ⟨w.heap.size, 0, none⟩) (Nat.le_refl w.heap.size) _).setCell (p := ⟨w.heap.size, 1, none⟩) (Nat.le_refl w.heap.size) _⟩
        | false =>
          cases u3 with
          | true =>
            have HG := Lib.hid (hno (by simp))
            clear hno hsE
            go_wp2_with fail
            refine (HS.out _).mono ?_; rintro e x1 ⟨rfl, rfl⟩
            go_wp2_with fail
            refine (HD.out _).mono ?_; rintro e x1 ⟨rfl, rfl⟩
            go_wp2_with fail
            go_step3
            go_wp2_with fail
            refine goto_jump ?_
            go_wp2_with fail
            rw [Exit.noGoto_ret]
            refine bodyPost_ret (v := .tuple #[.agg #[.int .i64 0, .int .i64 0], .int .i64 120]) (by simp [results, Tryz.results50, go_sem, r0, r1, g0, g1]; try rfl) rfl ?_
            exact ⟨by rw [HG.out], (HB16.out.setCell (p := ⟨w.heap.size, 0, none⟩) (Nat.le_refl w.heap.size) _).setCell (p := ⟨w.heap.size, 1, none⟩) (Nat.le_refl w.heap.size) _⟩
          | false =>
            cases u4 with
            | false =>
              have HG := Lib.hid (hno (by simp))
              clear hno hsE
              go_wp2_with fail
              refine (HS.out _).mono ?_; rintro e x1 ⟨rfl, rfl⟩
              go_wp2_with fail
              refine (HD.out _).mono ?_; rintro e x1 ⟨rfl, rfl⟩
              go_wp2_with fail
              refine (HS.out _).mono ?_; rintro e x1 ⟨rfl, rfl⟩
              go_wp2_with fail
              have HRs : Hid ((w16.setCell ⟨w.heap.size, 0, none⟩ (.int .i64 ((sd + 60) * 86400 + (3600 * h + 60 * mi + se - 60 * -(60 * oh + om))))).heap[w.heap.size]? = some (.cells #[.int .i64 ((sd + 60) * 86400 + (3600 * h + 60 * mi + se - 60 * -(60 * oh + om))), .int .i64 na] 84 (0, 0))) := Lib.hid (on_pset HR16.out _ rfl)
              have HBs : Hid (Below w.heap.size w (w16.setCell ⟨w.heap.size, 0, none⟩ (.int .i64 ((sd + 60) * 86400 + (3600 * h + 60 * mi + se - 60 * -(60 * oh + om)))))) := Lib.hid (HB16.out.setCell (p := ⟨w.heap.size, 0, none⟩) (Nat.le_refl w.heap.size) _)
              (with_reducible refine (HCK.out _).mono ?_); rintro e x2 ⟨rfl, hb⟩
              have HR2 : Hid (x2.heap[w.heap.size]? = some (.cells #[.int .i64 ((sd + 60) * 86400 + (3600 * h + 60 * mi + se - 60 * -(60 * oh + om))), .int .i64 na] 84 (0, 0))) := Lib.hid ((hb.block w.heap.size (heap_lt HRs.out)).trans HRs.out)
              have HB2 : Hid (Below w.heap.size w x2) := Lib.hid (HBs.out.trans (hb.mono HBs.out.size))
              clear hb r0 r1 g0 g1 c0 c1
              have r0 : x2.cell? ⟨w.heap.size, 0, none⟩ = some (.int .i64 ((sd + 60) * 86400 + (3600 * h + 60 * mi + se - 60 * -(60 * oh + om)))) := (Lib.cell_of_heap HR2.out 0).trans rfl
              have r1 : x2.cell? ⟨w.heap.size, 1, none⟩ = some (.int .i64 na) := (Lib.cell_of_heap HR2.out 1).trans rfl
              have g0 : x2.frozen? ⟨w.heap.size, 0, none⟩ = false := Lib.frozen_of_heap HR2.out 0
              have g1 : x2.frozen? ⟨w.heap.size, 1, none⟩ = false := Lib.frozen_of_heap HR2.out 1
              go_wp2_with fail
              go_step3
              go_wp2_with fail
              rw [jump_ret]
              refine bodyPost_ret (v := .tuple #[.agg #[.int .i64 0, .int .i64 0], .int .i64 120]) (by simp [results, Tryz.results50, go_sem, r0, r1, g0, g1]; try rfl) rfl ?_
              exact ⟨by rw [HG.out], (HB2.out.setCell (p := ⟨w.heap.size, 0, none⟩) (Nat.le_refl w.heap.size) _).setCell (p := ⟨w.heap.size, 1, none⟩) (Nat.le_refl w.heap.size) _⟩
            | true =>
              have HG := Lib.hid (hyes hsE rfl rfl rfl rfl rfl)
              clear hno hsE
              go_wp2_with fail
              refine (HS.out _).mono ?_; rintro e x1 ⟨rfl, rfl⟩
              go_wp2_with fail
              refine (HD.out _).mono ?_; rintro e x1 ⟨rfl, rfl⟩
              go_wp2_with fail
              refine (HS.out _).mono ?_; rintro e x1 ⟨rfl, rfl⟩
              go_wp2_with fail
              have HRs : Hid ((w16.setCell ⟨w.heap.size, 0, none⟩ (.int .i64 ((sd + 60) * 86400 + (3600 * h + 60 * mi + se - 60 * -(60 * oh + om))))).heap[w.heap.size]? = some (.cells #[.int .i64 ((sd + 60) * 86400 + (3600 * h + 60 * mi + se - 60 * -(60 * oh + om))), .int .i64 na] 84 (0, 0))) := Lib.hid (on_pset HR16.out _ rfl)
              have HBs : Hid (Below w.heap.size w (w16.setCell ⟨w.heap.size, 0, none⟩ (.int .i64 ((sd + 60) * 86400 + (3600 * h + 60 * mi + se - 60 * -(60 * oh + om)))))) := Lib.hid (HB16.out.setCell (p := ⟨w.heap.size, 0, none⟩) (Nat.le_refl w.heap.size) _)
              (with_reducible refine (HCK.out _).mono ?_); rintro e x2 ⟨rfl, hb⟩
              have HR2 : Hid (x2.heap[w.heap.size]? = some (.cells #[.int .i64 ((sd + 60) * 86400 + (3600 * h + 60 * mi + se - 60 * -(60 * oh + om))), .int .i64 na] 84 (0, 0))) := Lib.hid ((hb.block w.heap.size (heap_lt HRs.out)).trans HRs.out)
              have HB2 : Hid (Below w.heap.size w x2) := Lib.hid (HBs.out.trans (hb.mono HBs.out.size))
              clear hb r0 r1 g0 g1 c0 c1
              have r0 : x2.cell? ⟨w.heap.size, 0, none⟩ = some (.int .i64 ((sd + 60) * 86400 + (3600 * h + 60 * mi + se - 60 * -(60 * oh + om)))) := (Lib.cell_of_heap HR2.out 0).trans rfl
              have r1 : x2.cell? ⟨w.heap.size, 1, none⟩ = some (.int .i64 na) := (Lib.cell_of_heap HR2.out 1).trans rfl
              have g0 : x2.frozen? ⟨w.heap.size, 0, none⟩ = false := Lib.frozen_of_heap HR2.out 0
              have g1 : x2.frozen? ⟨w.heap.size, 1, none⟩ = false := Lib.frozen_of_heap HR2.out 1
              go_wp2_with fail
              rw [jump_ret]
              refine bodyPost_ret (v := .tuple #[.agg #[.int .i64 ((sd + 60) * 86400 + (3600 * h + 60 * mi + se - 60 * -(60 * oh + om))), .int .i64 na], .int .i64 0]) (by simp [results, Tryz.results50, go_sem, r0, r1, g0, g1]; try rfl) rfl ?_
              exact ⟨by rw [HG.out], (HB2.out.setCell (p := ⟨w.heap.size, 0, none⟩) (Nat.le_refl w.heap.size) _).setCell (p := ⟨w.heap.size, 1, none⟩) (Nat.le_refl w.heap.size) _⟩
    · have hs2 : sE.toList.isEmpty = false := by simpa using hsE
      have HG := Lib.hid (hno (by simp [hsE]))
      clear hno
      go_wp2_with fail
      go_step3
      go_wp2_with fail
      refine goto_jump ?_
      go_wp2_with fail
      rw [Exit.noGoto_ret]
      refine bodyPost_ret (v := .tuple #[.agg #[.int .i64 0, .int .i64 0], .int .i64 120]) (by simp [results, Tryz.results50, go_sem, r0, r1, g0, g1]; try rfl) rfl ?_
      exact ⟨by rw [HG.out], (HB16.out.setCell (p := ⟨w.heap.size, 0, none⟩) (Nat.le_refl w.heap.size) _).setCell (p := ⟨w.heap.size, 1, none⟩) (Nat.le_refl w.heap.size) _⟩
end Go.Proofs.YtjhgiojmlkeccaaGreatDoor
namespace Go.Proofs.YtjhgiojmlkeccaaGreatDoor
open Go.RowKit Go.Shelf
def d0 (l : List UInt8) : Int × List UInt8 × Bool := dNum 4 0 9999 l false
theorem d0_eq (l : List UInt8) : d0 l = dNum 4 0 9999 l false := rfl
def d1 (l : List UInt8) : Nat × List UInt8 × Bool := dMark [45] (d0 l).2.1 (d0 l).2.2
theorem d1_eq (l : List UInt8) : d1 l = dMark [45] (d0 l).2.1 (d0 l).2.2 := rfl
def d2 (l : List UInt8) : Int × List UInt8 × Bool := dNum 2 1 12 (d1 l).2.1 (d1 l).2.2
theorem d2_eq (l : List UInt8) : d2 l = dNum 2 1 12 (d1 l).2.1 (d1 l).2.2 := rfl
def d3 (l : List UInt8) : Nat × List UInt8 × Bool := dMark [45] (d2 l).2.1 (d2 l).2.2
theorem d3_eq (l : List UInt8) : d3 l = dMark [45] (d2 l).2.1 (d2 l).2.2 := rfl
def d4 (l : List UInt8) : Int × List UInt8 × Bool := dNum 2 1 31 (d3 l).2.1 (d3 l).2.2
theorem d4_eq (l : List UInt8) : d4 l = dNum 2 1 31 (d3 l).2.1 (d3 l).2.2 := rfl
def d5 (l : List UInt8) : Nat × List UInt8 × Bool := dMark [84, 116] (d4 l).2.1 (d4 l).2.2
theorem d5_eq (l : List UInt8) : d5 l = dMark [84, 116] (d4 l).2.1 (d4 l).2.2 := rfl
def d6 (l : List UInt8) : Int × List UInt8 × Bool := dNum 2 0 23 (d5 l).2.1 (d5 l).2.2
theorem d6_eq (l : List UInt8) : d6 l = dNum 2 0 23 (d5 l).2.1 (d5 l).2.2 := rfl
def d7 (l : List UInt8) : Nat × List UInt8 × Bool := dMark [58] (d6 l).2.1 (d6 l).2.2
theorem d7_eq (l : List UInt8) : d7 l = dMark [58] (d6 l).2.1 (d6 l).2.2 := rfl
def d8 (l : List UInt8) : Int × List UInt8 × Bool := dNum 2 0 59 (d7 l).2.1 (d7 l).2.2
theorem d8_eq (l : List UInt8) : d8 l = dNum 2 0 59 (d7 l).2.1 (d7 l).2.2 := rfl
def d9 (l : List UInt8) : Nat × List UInt8 × Bool := dMark [58] (d8 l).2.1 (d8 l).2.2
theorem d9_eq (l : List UInt8) : d9 l = dMark [58] (d8 l).2.1 (d8 l).2.2 := rfl
def d10 (l : List UInt8) : Int × List UInt8 × Bool := dNum 2 0 59 (d9 l).2.1 (d9 l).2.2
theorem d10_eq (l : List UInt8) : d10 l = dNum 2 0 59 (d9 l).2.1 (d9 l).2.2 := rfl
def d11 (l : List UInt8) : Int × List UInt8 × Bool := dFrac (d10 l).2.1 (d10 l).2.2
theorem d11_eq (l : List UInt8) : d11 l = dFrac (d10 l).2.1 (d10 l).2.2 := rfl
def d12 (l : List UInt8) : Nat × List UInt8 × Bool := dMark [90, 122, 43, 45] (d11 l).2.1 (d11 l).2.2
theorem d12_eq (l : List UInt8) : d12 l = dMark [90, 122, 43, 45] (d11 l).2.1 (d11 l).2.2 := rfl
def d13 (l : List UInt8) : Int × List UInt8 × Bool := dNum 2 0 23 (d12 l).2.1 (d12 l).2.2
theorem d13_eq (l : List UInt8) : d13 l = dNum 2 0 23 (d12 l).2.1 (d12 l).2.2 := rfl
def d14 (l : List UInt8) : Nat × List UInt8 × Bool := dMark [58] (d13 l).2.1 (d13 l).2.2
theorem d14_eq (l : List UInt8) : d14 l = dMark [58] (d13 l).2.1 (d13 l).2.2 := rfl
def d15 (l : List UInt8) : Int × List UInt8 × Bool := dNum 2 0 59 (d14 l).2.1 (d14 l).2.2
theorem d15_eq (l : List UInt8) : d15 l = dNum 2 0 59 (d14 l).2.1 (d14 l).2.2 := rfl
/-- The offset's minutes; what is left; whether that is bad. -/
def dOff (l : List UInt8) : Int × List UInt8 × Bool :=
  if (d12 l).1 = 43 then (60 * (d13 l).1 + (d15 l).1, (d15 l).2) else if (d12 l).1 = 45 then (-(60 * (d13 l).1 + (d15 l).1), (d15 l).2) else (0, (d12 l).2)
def dSd (l : List UInt8) : Int := sinceD (d0 l).1 (d2 l).1 (d4 l).1
def dSec (l : List UInt8) : Int := (dSd l + 60) * 86400 + (3600 * (d6 l).1 + 60 * (d8 l).1 + (d10 l).1 - 60 * (dOff l).1)
def dOk (l : List UInt8) : Bool := !(dOff l).2.2 && (dOff l).2.1.isEmpty && dateY (dSd l) == (d0 l).1 && dateM (dSd l) == (d2 l).1 && dateDD (dSd l) == (d4 l).1 && dchk (dSec l) (d11 l).1 == 0
/-- The seconds, the nanoseconds, the error. -/
def dParse (l : List UInt8) : Int × Int × Int := if dOk l then (dSec l, (d11 l).1, 0) else (0, 0, 120)
theorem len_mk (l : List UInt8) : (⟨l.toArray⟩ : ByteArray).size = l.length := by show l.toArray.size = _; simp
theorem toL_mk (l : List UInt8) : (⟨l.toArray⟩ : ByteArray).toList = l := by rw [ByteArray.toList_eq]
theorem ix_mem (l : List UInt8) (c : UInt8) : l.contains c = decide (0 ≤ Lib.indexByte l c) := by
  have hg := Lib.indexByte_ge l c
  by_cases h : 0 ≤ Lib.indexByte l c
  · obtain ⟨o, ho⟩ : ∃ o : Nat, Lib.indexByte l c = o := ⟨(Lib.indexByte l c).toNat, by omega⟩
    have h1 := (Lib.indexByte_some ho).1
    rw [decide_eq_true h]
    simpa using List.mem_of_getElem? h1
  · have h1 := Lib.indexByte_none (show Lib.indexByte l c = -1 by omega)
    rw [decide_eq_false h]
    refine Bool.eq_false_iff.2 fun hc => ?_
    have hm : c ∈ l := by simpa using hc
    obtain ⟨k, hk⟩ := List.getElem?_of_mem hm
    exact h1 k hk
theorem dNum_len (many : Nat) (lo hi : Int) (l : List UInt8) (b : Bool) : (dNum many lo hi l b).2.1.length ≤ l.length := by
  unfold dNum; split
  · exact Nat.le_refl _
  · dsimp only; rw [List.length_drop]; omega
theorem dMark_len (m l : List UInt8) (b : Bool) : (dMark m l b).2.1.length ≤ l.length := by
  unfold dMark; split
  · exact Nat.le_refl _
  · split
    · simp
    · exact Nat.le_refl _
theorem dFrac_len (l : List UInt8) (b : Bool) : (dFrac l b).2.1.length ≤ l.length := by
  unfold dFrac; split
  · exact Nat.le_refl _
  · split
    · dsimp only
      split
      · simp
      · refine Nat.le_trans (dNum_len _ _ _ _ _) (by simp)
    · exact Nat.le_refl _
theorem dnum_any (many : Nat) (hm : many ≤ 9) (lo hi : Int) (l : List UInt8) (hl : l.length ≤ 1000000) (b : Bool) : DNum many lo hi (dNum many lo hi l b).1 ⟨l.toArray⟩ b ⟨(dNum many lo hi l b).2.1.toArray⟩ (dNum many lo hi l b).2.2 := by
  intro tb W hh
  unfold dNum
  by_cases h : l.length < many
  · rw [if_pos h]
    exact dnum_short many lo hi _ (by rw [len_mk]; exact h) hm tb b W hh
  · rw [if_neg h]
    exact dnum_go many lo hi ⟨l.toArray⟩ ⟨(l.take many).toArray⟩ ⟨(l.drop many).toArray⟩ (by rw [len_mk]; omega) hm (by rw [len_mk]; omega) (by rw [ext_mk]; simp) (by rw [ext_mk, len_mk, List.take_of_length_le (by rw [List.length_drop]; omega)]) (valU (l.take many)) rfl _ _ _ tb b W hh rfl rfl rfl
theorem dmark_any (m l : List UInt8) (hl : l.length ≤ 1000000) (b : Bool) : DMark ⟨m.toArray⟩ ((dMark m l b).1 : Nat) ⟨l.toArray⟩ b ⟨(dMark m l b).2.1.toArray⟩ (dMark m l b).2.2 := by
  intro tb W hh
  match l, hl, hh with
  | [], _, hh => exact dmark_nil _ tb b W hh
  | c :: r, hl, hh =>
    have h0 : 0 < (⟨(c :: r).toArray⟩ : ByteArray).size := by rw [len_mk]; simp
    have hne : ¬ (⟨(c :: r).toArray⟩ : ByteArray).toList = [] := by rw [toL_mk]; simp
    have hix : ∀ W, Calls Tryz.prog 117 #[.string ⟨m.toArray⟩, .int .u8 (((⟨(c :: r).toArray⟩ : ByteArray)[0]'h0).toNat : Int)] W fun e w' => e = .returned (.int .i64 (Lib.indexByte m c)) ∧ W = w' := fun W => by
      have := Tryz.strings_IndexByte ⟨m.toArray⟩ (((⟨(c :: r).toArray⟩ : ByteArray)[0]'h0).toNat : Int) W
      have e1 : (((⟨(c :: r).toArray⟩ : ByteArray)[0]'h0).toNat : Int).toNat.toUInt8 = c := by simp; rfl
      rw [e1] at this
      exact this.mono fun e w' ⟨a, b⟩ => ⟨a, b.symm⟩
    have hm := ix_mem m c
    unfold dMark
    dsimp only
    by_cases h : 0 ≤ Lib.indexByte m c
    · rw [if_pos (by rw [hm]; simpa using h)]
      exact dmark_yes ⟨m.toArray⟩ ⟨(c :: r).toArray⟩ ⟨r.toArray⟩ h0 hne (by rw [toL_mk]; rfl) (by rw [len_mk]; exact hl) (by rw [ext_mk, len_mk]; simp) (Lib.indexByte m c) h tb b W hh (Lib.hid hix)
    · rw [if_neg (by rw [hm]; simpa using h)]
      exact dmark_no ⟨m.toArray⟩ ⟨(c :: r).toArray⟩ h0 hne (by rw [toL_mk]; rfl) (by rw [len_mk]; exact hl) (Lib.indexByte m c) (by omega) tb b W hh (Lib.hid hix)
theorem dig_set (c : UInt8) : ([48, 49, 50, 51, 52, 53, 54, 55, 56, 57] : List UInt8).contains c = isDig c := by
  have : ∀ c : Fin 256, ([48, 49, 50, 51, 52, 53, 54, 55, 56, 57] : List UInt8).contains (UInt8.ofNat c.1) = isDig (UInt8.ofNat c.1) := by decide +kernel
  have h := this ⟨c.toNat, UInt8.toNat_lt _⟩
  simpa using h
theorem dropWhile_len (p : UInt8 → Bool) : ∀ r : List UInt8, (r.takeWhile p).length + (r.dropWhile p).length = r.length := fun r => by
  rw [← List.length_append, List.takeWhile_append_dropWhile]
theorem dfrac_any (l : List UInt8) (hl : l.length ≤ 1000000) (b : Bool) : DFrac (dFrac l b).1 ⟨l.toArray⟩ b ⟨(dFrac l b).2.1.toArray⟩ (dFrac l b).2.2 := by
  intro tb W hh
  have HC := fun W => (Tryz.strings_CutPrefix ⟨l.toArray⟩ ⟨#[46]⟩ W).mono fun e w' ⟨a, b⟩ => (⟨a, b.symm⟩ : _ ∧ W = w')
  have e46 : (⟨#[46]⟩ : ByteArray).data.toList = [46] := rfl
  rw [e46] at HC
  dsimp only at HC
  match l, hl, hh, HC with
  | [], _, hh, HC => exact dfrac_no ⟨#[]⟩ _ tb b W hh (Lib.hid HC)
  | c :: r, hl, hh, HC =>
    unfold dFrac
    dsimp only
    by_cases hc : c = 46
    · subst hc
      rw [if_pos rfl]
      have HC2 : Hid (∀ W, Calls Tryz.prog 84 #[.string ⟨(46 :: r).toArray⟩, .string ⟨#[46]⟩] W fun e w' => e = .returned (.tuple #[.string ⟨r.toArray⟩, .bool true]) ∧ W = w') := Lib.hid fun W => by
        have := HC W
        simpa [Lib.trimPrefix, Lib.hasPrefix] using this
      have HT : Hid (∀ W, Calls Tryz.prog 89 #[.string ⟨r.toArray⟩, .string ⟨#[48, 49, 50, 51, 52, 53, 54, 55, 56, 57]⟩] W fun e w' => e = .returned (.string ⟨(r.dropWhile isDig).toArray⟩) ∧ Below W.heap.size W w') := Lib.hid fun W => by
        have := Any.strings_TrimLeft_laid Tryz.lays161 (by kernel_rfl) ⟨r.toArray⟩ ⟨#[48, 49, 50, 51, 52, 53, 54, 55, 56, 57]⟩ W (by decide) (ascii_of_all (by decide))
        have e : Lib.trimLeftS r [48, 49, 50, 51, 52, 53, 54, 55, 56, 57] = r.dropWhile isDig := by
          unfold Lib.trimLeftS
          congr 1
          funext c
          exact dig_set c
        rw [← e]
        exact this
      have hlen := dropWhile_len isDig r
      have hr : r.length ≤ 1000000 := by simp at hl; omega
      by_cases hk : (r.takeWhile isDig).length < 1 ∨ 9 < (r.takeWhile isDig).length
      · rw [if_pos hk]
        exact dfrac_bad ⟨(46 :: r).toArray⟩ ⟨r.toArray⟩ ⟨(r.dropWhile isDig).toArray⟩ (by rw [len_mk]; exact hr) (by rw [len_mk, len_mk]; omega) (r.takeWhile isDig).length (by rw [len_mk, len_mk]; omega) hk tb b W hh HC2 HT
      · rw [if_neg hk]
        have hbd := dNum_bd (r.takeWhile isDig).length 0 999999999 r b (by omega)
        exact dfrac_go ⟨(46 :: r).toArray⟩ ⟨r.toArray⟩ ⟨(r.dropWhile isDig).toArray⟩ _ (by rw [len_mk]; exact hr) (by rw [len_mk, len_mk]; omega) (r.takeWhile isDig).length (by rw [len_mk, len_mk]; omega) (by omega) (by omega) _ hbd.1 hbd.2 tb b _ W hh HC2 HT (Lib.hid fun W' h' => dnum_any _ (by omega) 0 999999999 r hr b tb W' h')
    · rw [if_neg hc]
      have HC2 : Hid (∀ W, Calls Tryz.prog 84 #[.string ⟨(c :: r).toArray⟩, .string ⟨#[46]⟩] W fun e w' => e = .returned (.tuple #[.string ⟨(c :: r).toArray⟩, .bool false]) ∧ W = w') := Lib.hid fun W => by
        have hp : ([46] : List UInt8).isPrefixOf (c :: r) = false := by simp [List.isPrefixOf, Ne.symm hc]
        have := HC W
        simpa [Lib.trimPrefix, Lib.hasPrefix, hp] using this
      exact dfrac_no ⟨(c :: r).toArray⟩ _ tb b W hh HC2
theorem d0_len (l : List UInt8) : (d0 l).2.1.length ≤ l.length := by rw [d0_eq]; exact dNum_len _ _ _ _ _
theorem d1_len (l : List UInt8) : (d1 l).2.1.length ≤ l.length := by rw [d1_eq]; exact Nat.le_trans (dMark_len _ _ _) (d0_len l)
theorem d2_len (l : List UInt8) : (d2 l).2.1.length ≤ l.length := by rw [d2_eq]; exact Nat.le_trans (dNum_len _ _ _ _ _) (d1_len l)
theorem d3_len (l : List UInt8) : (d3 l).2.1.length ≤ l.length := by rw [d3_eq]; exact Nat.le_trans (dMark_len _ _ _) (d2_len l)
theorem d4_len (l : List UInt8) : (d4 l).2.1.length ≤ l.length := by rw [d4_eq]; exact Nat.le_trans (dNum_len _ _ _ _ _) (d3_len l)
theorem d5_len (l : List UInt8) : (d5 l).2.1.length ≤ l.length := by rw [d5_eq]; exact Nat.le_trans (dMark_len _ _ _) (d4_len l)
theorem d6_len (l : List UInt8) : (d6 l).2.1.length ≤ l.length := by rw [d6_eq]; exact Nat.le_trans (dNum_len _ _ _ _ _) (d5_len l)
theorem d7_len (l : List UInt8) : (d7 l).2.1.length ≤ l.length := by rw [d7_eq]; exact Nat.le_trans (dMark_len _ _ _) (d6_len l)
theorem d8_len (l : List UInt8) : (d8 l).2.1.length ≤ l.length := by rw [d8_eq]; exact Nat.le_trans (dNum_len _ _ _ _ _) (d7_len l)
theorem d9_len (l : List UInt8) : (d9 l).2.1.length ≤ l.length := by rw [d9_eq]; exact Nat.le_trans (dMark_len _ _ _) (d8_len l)
theorem d10_len (l : List UInt8) : (d10 l).2.1.length ≤ l.length := by rw [d10_eq]; exact Nat.le_trans (dNum_len _ _ _ _ _) (d9_len l)
theorem d11_len (l : List UInt8) : (d11 l).2.1.length ≤ l.length := by rw [d11_eq]; exact Nat.le_trans (dFrac_len _ _) (d10_len l)
theorem d12_len (l : List UInt8) : (d12 l).2.1.length ≤ l.length := by rw [d12_eq]; exact Nat.le_trans (dMark_len _ _ _) (d11_len l)
theorem d13_len (l : List UInt8) : (d13 l).2.1.length ≤ l.length := by rw [d13_eq]; exact Nat.le_trans (dNum_len _ _ _ _ _) (d12_len l)
theorem d14_len (l : List UInt8) : (d14 l).2.1.length ≤ l.length := by rw [d14_eq]; exact Nat.le_trans (dMark_len _ _ _) (d13_len l)
theorem d0_bd (l : List UInt8) : 0 ≤ (d0 l).1 ∧ (d0 l).1 ≤ 9999 := by rw [d0_eq]; exact dNum_bd 4 0 9999 _ _ (by omega)
theorem d2_bd (l : List UInt8) : 1 ≤ (d2 l).1 ∧ (d2 l).1 ≤ 12 := by rw [d2_eq]; exact dNum_bd 2 1 12 _ _ (by omega)
theorem d4_bd (l : List UInt8) : 1 ≤ (d4 l).1 ∧ (d4 l).1 ≤ 31 := by rw [d4_eq]; exact dNum_bd 2 1 31 _ _ (by omega)
theorem d6_bd (l : List UInt8) : 0 ≤ (d6 l).1 ∧ (d6 l).1 ≤ 23 := by rw [d6_eq]; exact dNum_bd 2 0 23 _ _ (by omega)
theorem d8_bd (l : List UInt8) : 0 ≤ (d8 l).1 ∧ (d8 l).1 ≤ 59 := by rw [d8_eq]; exact dNum_bd 2 0 59 _ _ (by omega)
theorem d10_bd (l : List UInt8) : 0 ≤ (d10 l).1 ∧ (d10 l).1 ≤ 59 := by rw [d10_eq]; exact dNum_bd 2 0 59 _ _ (by omega)
theorem d13_bd (l : List UInt8) : 0 ≤ (d13 l).1 ∧ (d13 l).1 ≤ 23 := by rw [d13_eq]; exact dNum_bd 2 0 23 _ _ (by omega)
theorem d15_bd (l : List UInt8) : 0 ≤ (d15 l).1 ∧ (d15 l).1 ≤ 59 := by rw [d15_eq]; exact dNum_bd 2 0 59 _ _ (by omega)
theorem d0_c (l : List UInt8) (hl : l.length ≤ 1000000) : DNum 4 0 9999 (d0 l).1 ⟨l.toArray⟩ false ⟨(d0 l).2.1.toArray⟩ (d0 l).2.2 := by rw [d0_eq]; exact dnum_any 4 (by omega) 0 9999 _ hl _
theorem d1_c (l : List UInt8) (hl : l.length ≤ 1000000) : DMark ⟨#[45]⟩ ((d1 l).1 : Nat) ⟨(d0 l).2.1.toArray⟩ (d0 l).2.2 ⟨(d1 l).2.1.toArray⟩ (d1 l).2.2 := by rw [d1_eq]; exact dmark_any [45] _ (Nat.le_trans (d0_len l) hl) _
theorem d2_c (l : List UInt8) (hl : l.length ≤ 1000000) : DNum 2 1 12 (d2 l).1 ⟨(d1 l).2.1.toArray⟩ (d1 l).2.2 ⟨(d2 l).2.1.toArray⟩ (d2 l).2.2 := by rw [d2_eq]; exact dnum_any 2 (by omega) 1 12 _ (Nat.le_trans (d1_len l) hl) _
theorem d3_c (l : List UInt8) (hl : l.length ≤ 1000000) : DMark ⟨#[45]⟩ ((d3 l).1 : Nat) ⟨(d2 l).2.1.toArray⟩ (d2 l).2.2 ⟨(d3 l).2.1.toArray⟩ (d3 l).2.2 := by rw [d3_eq]; exact dmark_any [45] _ (Nat.le_trans (d2_len l) hl) _
theorem d4_c (l : List UInt8) (hl : l.length ≤ 1000000) : DNum 2 1 31 (d4 l).1 ⟨(d3 l).2.1.toArray⟩ (d3 l).2.2 ⟨(d4 l).2.1.toArray⟩ (d4 l).2.2 := by rw [d4_eq]; exact dnum_any 2 (by omega) 1 31 _ (Nat.le_trans (d3_len l) hl) _
theorem d5_c (l : List UInt8) (hl : l.length ≤ 1000000) : DMark ⟨#[84, 116]⟩ ((d5 l).1 : Nat) ⟨(d4 l).2.1.toArray⟩ (d4 l).2.2 ⟨(d5 l).2.1.toArray⟩ (d5 l).2.2 := by rw [d5_eq]; exact dmark_any [84, 116] _ (Nat.le_trans (d4_len l) hl) _
theorem d6_c (l : List UInt8) (hl : l.length ≤ 1000000) : DNum 2 0 23 (d6 l).1 ⟨(d5 l).2.1.toArray⟩ (d5 l).2.2 ⟨(d6 l).2.1.toArray⟩ (d6 l).2.2 := by rw [d6_eq]; exact dnum_any 2 (by omega) 0 23 _ (Nat.le_trans (d5_len l) hl) _
theorem d7_c (l : List UInt8) (hl : l.length ≤ 1000000) : DMark ⟨#[58]⟩ ((d7 l).1 : Nat) ⟨(d6 l).2.1.toArray⟩ (d6 l).2.2 ⟨(d7 l).2.1.toArray⟩ (d7 l).2.2 := by rw [d7_eq]; exact dmark_any [58] _ (Nat.le_trans (d6_len l) hl) _
theorem d8_c (l : List UInt8) (hl : l.length ≤ 1000000) : DNum 2 0 59 (d8 l).1 ⟨(d7 l).2.1.toArray⟩ (d7 l).2.2 ⟨(d8 l).2.1.toArray⟩ (d8 l).2.2 := by rw [d8_eq]; exact dnum_any 2 (by omega) 0 59 _ (Nat.le_trans (d7_len l) hl) _
theorem d9_c (l : List UInt8) (hl : l.length ≤ 1000000) : DMark ⟨#[58]⟩ ((d9 l).1 : Nat) ⟨(d8 l).2.1.toArray⟩ (d8 l).2.2 ⟨(d9 l).2.1.toArray⟩ (d9 l).2.2 := by rw [d9_eq]; exact dmark_any [58] _ (Nat.le_trans (d8_len l) hl) _
theorem d10_c (l : List UInt8) (hl : l.length ≤ 1000000) : DNum 2 0 59 (d10 l).1 ⟨(d9 l).2.1.toArray⟩ (d9 l).2.2 ⟨(d10 l).2.1.toArray⟩ (d10 l).2.2 := by rw [d10_eq]; exact dnum_any 2 (by omega) 0 59 _ (Nat.le_trans (d9_len l) hl) _
theorem d11_c (l : List UInt8) (hl : l.length ≤ 1000000) : DFrac (d11 l).1 ⟨(d10 l).2.1.toArray⟩ (d10 l).2.2 ⟨(d11 l).2.1.toArray⟩ (d11 l).2.2 := by rw [d11_eq]; exact dfrac_any _ (Nat.le_trans (d10_len l) hl) _
theorem d12_c (l : List UInt8) (hl : l.length ≤ 1000000) : DMark ⟨#[90, 122, 43, 45]⟩ ((d12 l).1 : Nat) ⟨(d11 l).2.1.toArray⟩ (d11 l).2.2 ⟨(d12 l).2.1.toArray⟩ (d12 l).2.2 := by rw [d12_eq]; exact dmark_any [90, 122, 43, 45] _ (Nat.le_trans (d11_len l) hl) _
theorem d13_c (l : List UInt8) (hl : l.length ≤ 1000000) : DNum 2 0 23 (d13 l).1 ⟨(d12 l).2.1.toArray⟩ (d12 l).2.2 ⟨(d13 l).2.1.toArray⟩ (d13 l).2.2 := by rw [d13_eq]; exact dnum_any 2 (by omega) 0 23 _ (Nat.le_trans (d12_len l) hl) _
theorem d14_c (l : List UInt8) (hl : l.length ≤ 1000000) : DMark ⟨#[58]⟩ ((d14 l).1 : Nat) ⟨(d13 l).2.1.toArray⟩ (d13 l).2.2 ⟨(d14 l).2.1.toArray⟩ (d14 l).2.2 := by rw [d14_eq]; exact dmark_any [58] _ (Nat.le_trans (d13_len l) hl) _
theorem d15_c (l : List UInt8) (hl : l.length ≤ 1000000) : DNum 2 0 59 (d15 l).1 ⟨(d14 l).2.1.toArray⟩ (d14 l).2.2 ⟨(d15 l).2.1.toArray⟩ (d15 l).2.2 := by rw [d15_eq]; exact dnum_any 2 (by omega) 0 59 _ (Nat.le_trans (d14_len l) hl) _
theorem dparse_any (l : List UInt8) (hl : l.length ≤ 1000000) (w : World) :
    Calls Tryz.prog 50 #[.string ⟨l.toArray⟩] w fun e w' => e = .returned (.tuple #[.agg #[.int .i64 (dParse l).1, .int .i64 (dParse l).2.1], .int .i64 (dParse l).2.2]) ∧ Below w.heap.size w w' := by
  have HSD := since_bd (d0 l).1 (d2 l).1 (d4 l).1 (d0_bd l).1 (d0_bd l).2 (d4_bd l).1 (d4_bd l).2
  have HS : ∀ W, Calls Tryz.prog 75 #[.int .i64 (d0 l).1, .int .i64 (d2 l).1, .int .i64 (d4 l).1] W fun e w' => e = .returned (.int .i64 (dSd l)) ∧ W = w' := fun W => since_any _ _ _ (d0_bd l).1 (d0_bd l).2 (d2_bd l).1 (d2_bd l).2 (d4_bd l).1 (d4_bd l).2 W
  have HD : ∀ W, Calls Tryz.prog 74 #[.int .i64 (dSd l)] W fun e w' => e = .returned (.tuple #[.int .i64 (dateY (dSd l)), .int .i64 (dateM (dSd l)), .int .i64 (dateDD (dSd l))]) ∧ W = w' := fun W => date_any _ HSD.1 HSD.2 W
  have HCK : ∀ W, Calls Tryz.prog 76 #[.agg #[.int .i64 (dSec l), .int .i64 (d11 l).1]] W fun e w' => e = .returned (.int .i64 (dchk (dSec l) (d11 l).1)) ∧ Below W.heap.size W w' := fun W => dcheck_any _ _ W
  have hok : dOk l = (!(dOff l).2.2 && (dOff l).2.1.isEmpty && dateY (dSd l) == (d0 l).1 && dateM (dSd l) == (d2 l).1 && dateDD (dSd l) == (d4 l).1 && dchk (dSec l) (d11 l).1 == 0) := rfl
  have hnil : ∀ L : List UInt8, (⟨L.toArray⟩ : ByteArray).toList = [] → (⟨L.toArray⟩ : ByteArray) = ⟨#[]⟩ := fun L h => by rw [toL_mk] at h; rw [h]
  have hno : ∀ u1 u2 u3 u4 : Bool, (dateY (dSd l) != (d0 l).1) = u1 → (dateM (dSd l) != (d2 l).1) = u2 → (dateDD (dSd l) != (d4 l).1) = u3 → (dchk (dSec l) (d11 l).1 == 0) = u4 → ((dOff l).2.2 = true ∨ ¬ (⟨(dOff l).2.1.toArray⟩ : ByteArray).toList = [] ∨ u1 = true ∨ u2 = true ∨ u3 = true ∨ u4 = false) → (.tuple #[.agg #[.int .i64 (dParse l).1, .int .i64 (dParse l).2.1], .int .i64 (dParse l).2.2] : Value) = .tuple #[.agg #[.int .i64 0, .int .i64 0], .int .i64 120] := by
    intro u1 u2 u3 u4 h1 h2 h3 h4 h
    have : dOk l = false := by
      rw [hok]
      rw [toL_mk] at h
      subst h1 h2 h3 h4
      rcases h with h | h | h | h | h | h
      · rw [h]; simp
      · have : (dOff l).2.1.isEmpty = false := by simpa using h
        rw [this]; simp
      · have : (dateY (dSd l) == (d0 l).1) = false := by simpa using h
        rw [this]; simp
      · have : (dateM (dSd l) == (d2 l).1) = false := by simpa using h
        rw [this]; simp
      · have : (dateDD (dSd l) == (d4 l).1) = false := by simpa using h
        rw [this]; simp
      · rw [h]; simp
    unfold dParse
    rw [this, if_neg Bool.false_ne_true]
  have hyes : ∀ u1 u2 u3 u4 : Bool, (dateY (dSd l) != (d0 l).1) = u1 → (dateM (dSd l) != (d2 l).1) = u2 → (dateDD (dSd l) != (d4 l).1) = u3 → (dchk (dSec l) (d11 l).1 == 0) = u4 → (⟨(dOff l).2.1.toArray⟩ : ByteArray).toList = [] → (dOff l).2.2 = false → u1 = false → u2 = false → u3 = false → u4 = true → (.tuple #[.agg #[.int .i64 (dParse l).1, .int .i64 (dParse l).2.1], .int .i64 (dParse l).2.2] : Value) = .tuple #[.agg #[.int .i64 (dSec l), .int .i64 (d11 l).1], .int .i64 0] := by
    intro u1 u2 u3 u4 h1 h2 h3 h4 he hb g1 g2 g3 g4
    have : dOk l = true := by
      rw [hok]
      rw [toL_mk] at he
      subst h1 h2 h3 h4
      have e1 : (dateY (dSd l) == (d0 l).1) = true := by simpa using g1
      have e2 : (dateM (dSd l) == (d2 l).1) = true := by simpa using g2
      have e3 : (dateDD (dSd l) == (d4 l).1) = true := by simpa using g3
      rw [hb, he, e1, e2, e3, g4]; rfl
    unfold dParse
    rw [this, if_pos rfl]
  by_cases h43 : (d12 l).1 = 43
  · have ho : dOff l = (60 * (d13 l).1 + (d15 l).1, (d15 l).2) := by unfold dOff; rw [if_pos h43]
    have e : dSec l = (dSd l + 60) * 86400 + (3600 * (d6 l).1 + 60 * (d8 l).1 + (d10 l).1 - 60 * (60 * (d13 l).1 + (d15 l).1)) := by unfold dSec; rw [ho]
    have e1 : (dOff l).2.1 = (d15 l).2.1 := by rw [ho]
    have e2 : (dOff l).2.2 = (d15 l).2.2 := by rw [ho]
    rw [e] at HCK
    refine dparse_p ⟨l.toArray⟩ _ _ _ _ _ _ _ _ _ _ _ _ _ _ _ _ _ _ _ _ _ _ _ _ _ _ _ _ _ _ _ _ _ _ _ _ _ _ _ _ _ _ _ _ _ _ _ (d0_bd l).1 (d0_bd l).2 (d2_bd l).1 (d2_bd l).2 (d4_bd l).1 (d4_bd l).2 (d6_bd l).1 (d6_bd l).2 (d8_bd l).1 (d8_bd l).2 (d10_bd l).1 (d10_bd l).2 (dSd l) HSD.1 HSD.2 _ _ _ _ _ _ _ _ _ _ _ rfl rfl rfl rfl w (Lib.hid (d0_c l hl)) (Lib.hid (d1_c l hl)) (Lib.hid (d2_c l hl)) (Lib.hid (d3_c l hl)) (Lib.hid (d4_c l hl)) (Lib.hid (d5_c l hl)) (Lib.hid (d6_c l hl)) (Lib.hid (d7_c l hl)) (Lib.hid (d8_c l hl)) (Lib.hid (d9_c l hl)) (Lib.hid (d10_c l hl)) (Lib.hid (d11_c l hl)) (Lib.hid (by have := d12_c l hl; rw [h43] at this; exact this)) (Lib.hid (d13_c l hl)) (Lib.hid (d14_c l hl)) (Lib.hid (d15_c l hl)) (Lib.hid HS) (Lib.hid HD) (Lib.hid HCK) (d13_bd l).1 (d13_bd l).2 (d15_bd l).1 (d15_bd l).2 (hnil _) ?_ ?_
    · intro h
      rw [← e] at h
      rw [← e1, ← e2] at h
      exact hno _ _ _ _ rfl rfl rfl rfl h
    · intro h0 h1 h2 h3 h4 h5
      rw [← e] at h5 ⊢
      rw [← e2] at h1
      rw [← e1] at h0
      exact hyes _ _ _ _ rfl rfl rfl rfl h0 h1 h2 h3 h4 h5
  by_cases h45 : (d12 l).1 = 45
  · have ho : dOff l = (-(60 * (d13 l).1 + (d15 l).1), (d15 l).2) := by unfold dOff; rw [if_neg h43, if_pos h45]
    have e : dSec l = (dSd l + 60) * 86400 + (3600 * (d6 l).1 + 60 * (d8 l).1 + (d10 l).1 - 60 * -(60 * (d13 l).1 + (d15 l).1)) := by unfold dSec; rw [ho]
    have e1 : (dOff l).2.1 = (d15 l).2.1 := by rw [ho]
    have e2 : (dOff l).2.2 = (d15 l).2.2 := by rw [ho]
    rw [e] at HCK
    refine dparse_m ⟨l.toArray⟩ _ _ _ _ _ _ _ _ _ _ _ _ _ _ _ _ _ _ _ _ _ _ _ _ _ _ _ _ _ _ _ _ _ _ _ _ _ _ _ _ _ _ _ _ _ _ _ (d0_bd l).1 (d0_bd l).2 (d2_bd l).1 (d2_bd l).2 (d4_bd l).1 (d4_bd l).2 (d6_bd l).1 (d6_bd l).2 (d8_bd l).1 (d8_bd l).2 (d10_bd l).1 (d10_bd l).2 (dSd l) HSD.1 HSD.2 _ _ _ _ _ _ _ _ _ _ _ rfl rfl rfl rfl w (Lib.hid (d0_c l hl)) (Lib.hid (d1_c l hl)) (Lib.hid (d2_c l hl)) (Lib.hid (d3_c l hl)) (Lib.hid (d4_c l hl)) (Lib.hid (d5_c l hl)) (Lib.hid (d6_c l hl)) (Lib.hid (d7_c l hl)) (Lib.hid (d8_c l hl)) (Lib.hid (d9_c l hl)) (Lib.hid (d10_c l hl)) (Lib.hid (d11_c l hl)) (Lib.hid (by have := d12_c l hl; rw [h45] at this; exact this)) (Lib.hid (d13_c l hl)) (Lib.hid (d14_c l hl)) (Lib.hid (d15_c l hl)) (Lib.hid HS) (Lib.hid HD) (Lib.hid HCK) (d13_bd l).1 (d13_bd l).2 (d15_bd l).1 (d15_bd l).2 (hnil _) ?_ ?_
    · intro h
      rw [← e] at h
      rw [← e1, ← e2] at h
      exact hno _ _ _ _ rfl rfl rfl rfl h
    · intro h0 h1 h2 h3 h4 h5
      rw [← e] at h5 ⊢
      rw [← e2] at h1
      rw [← e1] at h0
      exact hyes _ _ _ _ rfl rfl rfl rfl h0 h1 h2 h3 h4 h5
  · have ho : dOff l = (0, (d12 l).2) := by unfold dOff; rw [if_neg h43, if_neg h45]
    have e : dSec l = (dSd l + 60) * 86400 + (3600 * (d6 l).1 + 60 * (d8 l).1 + (d10 l).1) := by unfold dSec; rw [ho]; omega
    have e1 : (dOff l).2.1 = (d12 l).2.1 := by rw [ho]
    have e2 : (dOff l).2.2 = (d12 l).2.2 := by rw [ho]
    rw [e] at HCK
    refine dparse_0 ⟨l.toArray⟩ _ _ _ _ _ _ _ _ _ _ _ _ _ _ _ _ _ _ _ _ _ _ _ _ _ _ _ _ _ _ _ _ _ _ _ _ _ _ _ (d0_bd l).1 (d0_bd l).2 (d2_bd l).1 (d2_bd l).2 (d4_bd l).1 (d4_bd l).2 (d6_bd l).1 (d6_bd l).2 (d8_bd l).1 (d8_bd l).2 (d10_bd l).1 (d10_bd l).2 (dSd l) HSD.1 HSD.2 _ _ _ _ _ _ _ _ _ _ _ rfl rfl rfl rfl w (Lib.hid (d0_c l hl)) (Lib.hid (d1_c l hl)) (Lib.hid (d2_c l hl)) (Lib.hid (d3_c l hl)) (Lib.hid (d4_c l hl)) (Lib.hid (d5_c l hl)) (Lib.hid (d6_c l hl)) (Lib.hid (d7_c l hl)) (Lib.hid (d8_c l hl)) (Lib.hid (d9_c l hl)) (Lib.hid (d10_c l hl)) (Lib.hid (d11_c l hl)) (Lib.hid (d12_c l hl)) (Lib.hid HS) (Lib.hid HD) (Lib.hid HCK) (by simp; omega) (by simp; omega) (hnil _) ?_ ?_
    · intro h
      rw [← e] at h
      rw [← e1, ← e2] at h
      exact hno _ _ _ _ rfl rfl rfl rfl h
    · intro h0 h1 h2 h3 h4 h5
      rw [← e] at h5 ⊢
      rw [← e2] at h1
      rw [← e1] at h0
      exact hyes _ _ _ _ rfl rfl rfl rfl h0 h1 h2 h3 h4 h5
end Go.Proofs.YtjhgiojmlkeccaaGreatDoor
namespace Go.Proofs.YtjhgiojmlkeccaaGreatDoor
open Go.RowKit Go.Shelf
/-- So many digits of a number. -/
def digD (n : Int) (many : Nat) : List UInt8 := List.replicate (many - (Lib.itoa n).length) 48 ++ Lib.itoa n
set_option maxRecDepth 100000 in
set_option maxHeartbeats 4000000 in
theorem ddigits_any (n : Int) (hr : R n) (many : Nat) (hm : many ≤ 20) (w : World) (ht : EnvT w) :
    Calls Tryz.prog 78 #[.int .i64 n, .int .i64 (many : Nat)] w fun e w' => e = .returned (.string ⟨(digD n many).toArray⟩) ∧ Below w.heap.size w w' := by
  have HT := Lib.hid ht
  have hl := len_itoa hr
  obtain ⟨iB, hi⟩ : ∃ b : ByteArray, (⟨(Lib.itoa n).toArray⟩ : ByteArray) = b := ⟨_, rfl⟩
  have his : iB.size = (Lib.itoa n).length := by rw [← hi, len_mk]
  obtain ⟨k, hk⟩ : ∃ k, many - (Lib.itoa n).length = k := ⟨_, rfl⟩
  have hmax : max 0 ((many : Int) - (iB.size : Int)) = (k : Int) := by rw [his]; omega
  have hk20 : k ≤ 20 := by omega
  have hsz : iB.size ≤ 21 := by omega
  obtain ⟨zB, hz⟩ : ∃ b : ByteArray, (⟨(List.replicate k 48).toArray⟩ : ByteArray) = b := ⟨_, rfl⟩
  have hzs : zB.size ≤ 20 := by rw [← hz, len_mk, List.length_replicate]; exact hk20
  have HR : Hid (∀ W, Calls Tryz.prog 91 #[.string ⟨#[48]⟩, .int .i64 (k : Nat)] W fun e w' => e = .returned (.string zB) ∧ W = w') := Lib.hid fun W => by have := repeat0_any k (by omega) W; rw [hz] at this; exact this
  have HI : Hid (∀ W, EnvT W → Calls Tryz.prog 120 #[.int .i64 n] W fun e w' => e = .returned (.string iB) ∧ Below W.heap.size W w') := Lib.hid fun W hW => by
    have := Tryz.strconv_Itoa n hr.1 hr.2 W hW
    rw [hi] at this
    exact this.mono fun e w' ⟨a, k, os, b⟩ => ⟨a, by rw [b]; exact below_grow _ _ _⟩
  have HE : Hid ((⟨(digD n many).toArray⟩ : ByteArray) = zB ++ iB) := Lib.hid (by unfold digD; rw [hk, ← hz, ← hi, cat])
  clear ht hl hi his hk hz
  go_enter Tryz.func78, Tryz.ntmps78
  go_wp2_with fail
  refine (HI.out _ HT.out).mono ?_; rintro e w1 ⟨rfl, hb⟩
  have HB := Lib.hid hb
  clear hb
  go_wp2_with fail
  refine (HR.out _).mono ?_; rintro e w2 ⟨rfl, rfl⟩
  go_wp2_with fail
  go_ret
  exact ⟨by rw [HE.out]; rfl, HB.out⟩
set_option maxRecDepth 100000 in
set_option maxHeartbeats 4000000 in
theorem dtext_no (s n : Int) (w : World) (HD : Hid (DoesU w 77 #[.agg #[.int .i64 s, .int .i64 n]] (.tuple #[.int .i64 0, .int .i64 0, .int .i64 0, .int .i64 120]))) :
    Calls Tryz.prog 51 #[.agg #[.int .i64 s, .int .i64 n]] w fun e w' => e = .returned (.tuple #[.string ⟨#[]⟩, .int .i64 120]) ∧ Below w.heap.size w w' := by
  go_enter Tryz.func51, Tryz.ntmps51
  go_wp2_with fail
  refine (HD.out _ (by first | exact Below.refl _ _ | (go_grown; done))).mono ?_; rintro e w1 ⟨rfl, hb⟩
  have hh0 : w1.heap[w.heap.size]? = some (.cells #[.int .i64 s, .int .i64 n] 84 (0, 0)) := (hb.block _ (by first | omega | (simp; done) | (simp; omega))).trans (heap_new _ _ _ (by first | rfl | simp))
  have hbw1 : Below w.heap.size w w1 := (show Below w.heap.size w _ by first | exact Below.refl _ _ | (go_grown; done)).trans (hb.mono (by first | omega | (simp; done) | (simp; omega)))
  clear hb
  have HH0_1 := Lib.hid hh0
  have lt0 := heap_lt hh0
  have c0_0 : w1.cell? ⟨w.heap.size, 0, none⟩ = some (.int .i64 s) := by rw [Lib.cell_of_heap hh0]; rfl
  have c0_1 : w1.cell? ⟨w.heap.size, 1, none⟩ = some (.int .i64 n) := by rw [Lib.cell_of_heap hh0]; rfl
  clear hh0
  have sz1 := hbw1.size
  have HW1 := Lib.hid hbw1
  go_wp2_with fail
  go_ret2
  exact ⟨rfl, by first | exact HW1.out | (go_grown; done)⟩
set_option maxRecDepth 100000 in
set_option maxHeartbeats 4000000 in
theorem dtext_0 (s n y m d t q1 q2 q3 q4 : Int) (a1 a2 a3 a4 a5 a6 : ByteArray) (hs0 : 0 ≤ s) (hs1 : s ≤ 315569519999) (ht : s % 86400 = t) (ht0 : 0 ≤ t) (ht1 : t ≤ 86399) (h1 : t / 3600 = q1) (h2 : t / 60 = q2) (h20 : 0 ≤ q2) (h21 : q2 ≤ 1439) (h3 : q2 % 60 = q3) (h4 : t % 60 = q4) (hn : decide (0 < n) = false)
    (l1 : a1.size ≤ 41) (l2 : a2.size ≤ 41) (l3 : a3.size ≤ 41) (l4 : a4.size ≤ 41) (l5 : a5.size ≤ 41) (l6 : a6.size ≤ 41) (w : World) (HD : Hid (DoesU w 77 #[.agg #[.int .i64 s, .int .i64 n]] (.tuple #[.int .i64 y, .int .i64 m, .int .i64 d, .int .i64 0])))
    (A1 : Hid (DoesU w 78 #[.int .i64 y, .int .i64 4] (.string a1))) (A2 : Hid (DoesU w 78 #[.int .i64 m, .int .i64 2] (.string a2))) (A3 : Hid (DoesU w 78 #[.int .i64 d, .int .i64 2] (.string a3))) (A4 : Hid (DoesU w 78 #[.int .i64 q1, .int .i64 2] (.string a4))) (A5 : Hid (DoesU w 78 #[.int .i64 q3, .int .i64 2] (.string a5))) (A6 : Hid (DoesU w 78 #[.int .i64 q4, .int .i64 2] (.string a6))) :
    Calls Tryz.prog 51 #[.agg #[.int .i64 s, .int .i64 n]] w fun e w' => e = .returned (.tuple #[.string (a1 ++ ⟨#[45]⟩ ++ a2 ++ ⟨#[45]⟩ ++ a3 ++ ⟨#[84]⟩ ++ a4 ++ ⟨#[58]⟩ ++ a5 ++ ⟨#[58]⟩ ++ a6 ++ ⟨#[90]⟩), .int .i64 0]) ∧ Below w.heap.size w w' := by
  go_enter Tryz.func51, Tryz.ntmps51
  go_wp2_with fail
  refine (HD.out _ (by first | exact Below.refl _ _ | (go_grown; done))).mono ?_; rintro e w1 ⟨rfl, hb⟩
  have hh0 : w1.heap[w.heap.size]? = some (.cells #[.int .i64 s, .int .i64 n] 84 (0, 0)) := (hb.block _ (by first | omega | (simp; done) | (simp; omega))).trans (heap_new _ _ _ (by first | rfl | simp))
  have hbw1 : Below w.heap.size w w1 := (show Below w.heap.size w _ by first | exact Below.refl _ _ | (go_grown; done)).trans (hb.mono (by first | omega | (simp; done) | (simp; omega)))
  clear hb
  have HH0_1 := Lib.hid hh0
  have lt0 := heap_lt hh0
  have c0_0 : w1.cell? ⟨w.heap.size, 0, none⟩ = some (.int .i64 s) := by rw [Lib.cell_of_heap hh0]; rfl
  have c0_1 : w1.cell? ⟨w.heap.size, 1, none⟩ = some (.int .i64 n) := by rw [Lib.cell_of_heap hh0]; rfl
  clear hh0
  have sz1 := hbw1.size
  have HW1 := Lib.hid hbw1
  go_wp2_with fail
  refine (A1.out _ (by first | exact HW1.out | exact HW1.out.trans ⟨rfl, rfl, rfl, Nat.le_refl _, fun _ _ => rfl⟩ | (go_grown; done))).mono ?_; rintro e w2 ⟨rfl, hb⟩
  have hv0 := HH0_1.out
  have hh0 : w2.heap[w.heap.size]? = some (.cells #[.int .i64 s, .int .i64 n] 84 (0, 0)) := (hb.block _ (heap_lt hv0)).trans hv0
  clear hv0
  have hbw2 : Below w.heap.size w w2 := (show Below w.heap.size w _ by first | exact HW1.out.trans ⟨rfl, rfl, rfl, Nat.le_refl _, fun _ _ => rfl⟩ | exact HW1.out | (go_grown; done)).trans (hb.mono (by first | omega | (simp; done) | (simp; omega)))
  clear hb lt0 c0_0 c0_1 hbw1
  have HH0_2 := Lib.hid hh0
  have lt0 := heap_lt hh0
  have c0_0 : w2.cell? ⟨w.heap.size, 0, none⟩ = some (.int .i64 s) := by rw [Lib.cell_of_heap hh0]; rfl
  have c0_1 : w2.cell? ⟨w.heap.size, 1, none⟩ = some (.int .i64 n) := by rw [Lib.cell_of_heap hh0]; rfl
  clear hh0
  have sz2 := hbw2.size
  have HW2 := Lib.hid hbw2
  go_wp2_with fail
  refine (A2.out _ (by first | exact HW2.out | exact HW2.out.trans ⟨rfl, rfl, rfl, Nat.le_refl _, fun _ _ => rfl⟩ | (go_grown; done))).mono ?_; rintro e w3 ⟨rfl, hb⟩
  have hv0 := HH0_2.out
  have hh0 : w3.heap[w.heap.size]? = some (.cells #[.int .i64 s, .int .i64 n] 84 (0, 0)) := (hb.block _ (heap_lt hv0)).trans hv0
  clear hv0
  have hbw3 : Below w.heap.size w w3 := (show Below w.heap.size w _ by first | exact HW2.out.trans ⟨rfl, rfl, rfl, Nat.le_refl _, fun _ _ => rfl⟩ | exact HW2.out | (go_grown; done)).trans (hb.mono (by first | omega | (simp; done) | (simp; omega)))
  clear hb lt0 c0_0 c0_1 hbw2
  have HH0_3 := Lib.hid hh0
  have lt0 := heap_lt hh0
  have c0_0 : w3.cell? ⟨w.heap.size, 0, none⟩ = some (.int .i64 s) := by rw [Lib.cell_of_heap hh0]; rfl
  have c0_1 : w3.cell? ⟨w.heap.size, 1, none⟩ = some (.int .i64 n) := by rw [Lib.cell_of_heap hh0]; rfl
  clear hh0
  have sz3 := hbw3.size
  have HW3 := Lib.hid hbw3
  go_wp2_with fail
  refine (A3.out _ (by first | exact HW3.out | exact HW3.out.trans ⟨rfl, rfl, rfl, Nat.le_refl _, fun _ _ => rfl⟩ | (go_grown; done))).mono ?_; rintro e w4 ⟨rfl, hb⟩
  have hv0 := HH0_3.out
  have hh0 : w4.heap[w.heap.size]? = some (.cells #[.int .i64 s, .int .i64 n] 84 (0, 0)) := (hb.block _ (heap_lt hv0)).trans hv0
  clear hv0
  have hbw4 : Below w.heap.size w w4 := (show Below w.heap.size w _ by first | exact HW3.out.trans ⟨rfl, rfl, rfl, Nat.le_refl _, fun _ _ => rfl⟩ | exact HW3.out | (go_grown; done)).trans (hb.mono (by first | omega | (simp; done) | (simp; omega)))
  clear hb lt0 c0_0 c0_1 hbw3
  have HH0_4 := Lib.hid hh0
  have lt0 := heap_lt hh0
  have c0_0 : w4.cell? ⟨w.heap.size, 0, none⟩ = some (.int .i64 s) := by rw [Lib.cell_of_heap hh0]; rfl
  have c0_1 : w4.cell? ⟨w.heap.size, 1, none⟩ = some (.int .i64 n) := by rw [Lib.cell_of_heap hh0]; rfl
  clear hh0
  have sz4 := hbw4.size
  have HW4 := Lib.hid hbw4
  go_wp2_with fail
  refine (A4.out _ (by first | exact HW4.out | exact HW4.out.trans ⟨rfl, rfl, rfl, Nat.le_refl _, fun _ _ => rfl⟩ | (go_grown; done))).mono ?_; rintro e w5 ⟨rfl, hb⟩
  have hv0 := HH0_4.out
  have hh0 : w5.heap[w.heap.size]? = some (.cells #[.int .i64 s, .int .i64 n] 84 (0, 0)) := (hb.block _ (heap_lt hv0)).trans hv0
  clear hv0
  have hbw5 : Below w.heap.size w w5 := (show Below w.heap.size w _ by first | exact HW4.out.trans ⟨rfl, rfl, rfl, Nat.le_refl _, fun _ _ => rfl⟩ | exact HW4.out | (go_grown; done)).trans (hb.mono (by first | omega | (simp; done) | (simp; omega)))
  clear hb lt0 c0_0 c0_1 hbw4
  have HH0_5 := Lib.hid hh0
  have lt0 := heap_lt hh0
  have c0_0 : w5.cell? ⟨w.heap.size, 0, none⟩ = some (.int .i64 s) := by rw [Lib.cell_of_heap hh0]; rfl
  have c0_1 : w5.cell? ⟨w.heap.size, 1, none⟩ = some (.int .i64 n) := by rw [Lib.cell_of_heap hh0]; rfl
  clear hh0
  have sz5 := hbw5.size
  have HW5 := Lib.hid hbw5
  go_wp2_with fail
  refine (A5.out _ (by first | exact HW5.out | exact HW5.out.trans ⟨rfl, rfl, rfl, Nat.le_refl _, fun _ _ => rfl⟩ | (go_grown; done))).mono ?_; rintro e w6 ⟨rfl, hb⟩
  have hv0 := HH0_5.out
  have hh0 : w6.heap[w.heap.size]? = some (.cells #[.int .i64 s, .int .i64 n] 84 (0, 0)) := (hb.block _ (heap_lt hv0)).trans hv0
  clear hv0
  have hbw6 : Below w.heap.size w w6 := (show Below w.heap.size w _ by first | exact HW5.out.trans ⟨rfl, rfl, rfl, Nat.le_refl _, fun _ _ => rfl⟩ | exact HW5.out | (go_grown; done)).trans (hb.mono (by first | omega | (simp; done) | (simp; omega)))
  clear hb lt0 c0_0 c0_1 hbw5
  have HH0_6 := Lib.hid hh0
  have lt0 := heap_lt hh0
  have c0_0 : w6.cell? ⟨w.heap.size, 0, none⟩ = some (.int .i64 s) := by rw [Lib.cell_of_heap hh0]; rfl
  have c0_1 : w6.cell? ⟨w.heap.size, 1, none⟩ = some (.int .i64 n) := by rw [Lib.cell_of_heap hh0]; rfl
  clear hh0
  have sz6 := hbw6.size
  have HW6 := Lib.hid hbw6
  go_wp2_with fail
  refine (A6.out _ (by first | exact HW6.out | exact HW6.out.trans ⟨rfl, rfl, rfl, Nat.le_refl _, fun _ _ => rfl⟩ | (go_grown; done))).mono ?_; rintro e w7 ⟨rfl, hb⟩
  have hv0 := HH0_6.out
  have hh0 : w7.heap[w.heap.size]? = some (.cells #[.int .i64 s, .int .i64 n] 84 (0, 0)) := (hb.block _ (heap_lt hv0)).trans hv0
  clear hv0
  have hbw7 : Below w.heap.size w w7 := (show Below w.heap.size w _ by first | exact HW6.out.trans ⟨rfl, rfl, rfl, Nat.le_refl _, fun _ _ => rfl⟩ | exact HW6.out | (go_grown; done)).trans (hb.mono (by first | omega | (simp; done) | (simp; omega)))
  clear hb lt0 c0_0 c0_1 hbw6
  have HH0_7 := Lib.hid hh0
  have lt0 := heap_lt hh0
  have c0_0 : w7.cell? ⟨w.heap.size, 0, none⟩ = some (.int .i64 s) := by rw [Lib.cell_of_heap hh0]; rfl
  have c0_1 : w7.cell? ⟨w.heap.size, 1, none⟩ = some (.int .i64 n) := by rw [Lib.cell_of_heap hh0]; rfl
  clear hh0
  have sz7 := hbw7.size
  have HW7 := Lib.hid hbw7
  go_wp2_with fail
  go_ret2
  exact ⟨rfl, by first | exact HW7.out | (go_grown; done)⟩
set_option maxRecDepth 100000 in
set_option maxHeartbeats 4000000 in
theorem dtext_n (s n y m d t q1 q2 q3 q4 : Int) (a1 a2 a3 a4 a5 a6 a7 a8 : ByteArray) (hs0 : 0 ≤ s) (hs1 : s ≤ 315569519999) (ht : s % 86400 = t) (ht0 : 0 ≤ t) (ht1 : t ≤ 86399) (h1 : t / 3600 = q1) (h2 : t / 60 = q2) (h20 : 0 ≤ q2) (h21 : q2 ≤ 1439) (h3 : q2 % 60 = q3) (h4 : t % 60 = q4) (hn : decide (0 < n) = true)
    (l1 : a1.size ≤ 41) (l2 : a2.size ≤ 41) (l3 : a3.size ≤ 41) (l4 : a4.size ≤ 41) (l5 : a5.size ≤ 41) (l6 : a6.size ≤ 41) (l8 : a8.size ≤ 41) (w : World) (HD : Hid (DoesU w 77 #[.agg #[.int .i64 s, .int .i64 n]] (.tuple #[.int .i64 y, .int .i64 m, .int .i64 d, .int .i64 0])))
    (A1 : Hid (DoesU w 78 #[.int .i64 y, .int .i64 4] (.string a1))) (A2 : Hid (DoesU w 78 #[.int .i64 m, .int .i64 2] (.string a2))) (A3 : Hid (DoesU w 78 #[.int .i64 d, .int .i64 2] (.string a3))) (A4 : Hid (DoesU w 78 #[.int .i64 q1, .int .i64 2] (.string a4))) (A5 : Hid (DoesU w 78 #[.int .i64 q3, .int .i64 2] (.string a5))) (A6 : Hid (DoesU w 78 #[.int .i64 q4, .int .i64 2] (.string a6))) (A7 : Hid (DoesU w 78 #[.int .i64 n, .int .i64 9] (.string a7))) (A8 : Hid (DoesU w 79 #[.string a7, .string ⟨#[48]⟩] (.string a8))) :
    Calls Tryz.prog 51 #[.agg #[.int .i64 s, .int .i64 n]] w fun e w' => e = .returned (.tuple #[.string (a1 ++ ⟨#[45]⟩ ++ a2 ++ ⟨#[45]⟩ ++ a3 ++ ⟨#[84]⟩ ++ a4 ++ ⟨#[58]⟩ ++ a5 ++ ⟨#[58]⟩ ++ a6 ++ (⟨#[46]⟩ ++ a8) ++ ⟨#[90]⟩), .int .i64 0]) ∧ Below w.heap.size w w' := by
  go_enter Tryz.func51, Tryz.ntmps51
  go_wp2_with fail
  refine (HD.out _ (by first | exact Below.refl _ _ | (go_grown; done))).mono ?_; rintro e w1 ⟨rfl, hb⟩
  have hh0 : w1.heap[w.heap.size]? = some (.cells #[.int .i64 s, .int .i64 n] 84 (0, 0)) := (hb.block _ (by first | omega | (simp; done) | (simp; omega))).trans (heap_new _ _ _ (by first | rfl | simp))
  have hbw1 : Below w.heap.size w w1 := (show Below w.heap.size w _ by first | exact Below.refl _ _ | (go_grown; done)).trans (hb.mono (by first | omega | (simp; done) | (simp; omega)))
  clear hb
  have HH0_1 := Lib.hid hh0
  have lt0 := heap_lt hh0
  have c0_0 : w1.cell? ⟨w.heap.size, 0, none⟩ = some (.int .i64 s) := by rw [Lib.cell_of_heap hh0]; rfl
  have c0_1 : w1.cell? ⟨w.heap.size, 1, none⟩ = some (.int .i64 n) := by rw [Lib.cell_of_heap hh0]; rfl
  clear hh0
  have sz1 := hbw1.size
  have HW1 := Lib.hid hbw1
  go_wp2_with fail
  refine (A1.out _ (by first | exact HW1.out | exact HW1.out.trans ⟨rfl, rfl, rfl, Nat.le_refl _, fun _ _ => rfl⟩ | (go_grown; done))).mono ?_; rintro e w2 ⟨rfl, hb⟩
  have hv0 := HH0_1.out
  have hh0 : w2.heap[w.heap.size]? = some (.cells #[.int .i64 s, .int .i64 n] 84 (0, 0)) := (hb.block _ (heap_lt hv0)).trans hv0
  clear hv0
  have hbw2 : Below w.heap.size w w2 := (show Below w.heap.size w _ by first | exact HW1.out.trans ⟨rfl, rfl, rfl, Nat.le_refl _, fun _ _ => rfl⟩ | exact HW1.out | (go_grown; done)).trans (hb.mono (by first | omega | (simp; done) | (simp; omega)))
  clear hb lt0 c0_0 c0_1 hbw1
  have HH0_2 := Lib.hid hh0
  have lt0 := heap_lt hh0
  have c0_0 : w2.cell? ⟨w.heap.size, 0, none⟩ = some (.int .i64 s) := by rw [Lib.cell_of_heap hh0]; rfl
  have c0_1 : w2.cell? ⟨w.heap.size, 1, none⟩ = some (.int .i64 n) := by rw [Lib.cell_of_heap hh0]; rfl
  clear hh0
  have sz2 := hbw2.size
  have HW2 := Lib.hid hbw2
  go_wp2_with fail
  refine (A2.out _ (by first | exact HW2.out | exact HW2.out.trans ⟨rfl, rfl, rfl, Nat.le_refl _, fun _ _ => rfl⟩ | (go_grown; done))).mono ?_; rintro e w3 ⟨rfl, hb⟩
  have hv0 := HH0_2.out
  have hh0 : w3.heap[w.heap.size]? = some (.cells #[.int .i64 s, .int .i64 n] 84 (0, 0)) := (hb.block _ (heap_lt hv0)).trans hv0
  clear hv0
  have hbw3 : Below w.heap.size w w3 := (show Below w.heap.size w _ by first | exact HW2.out.trans ⟨rfl, rfl, rfl, Nat.le_refl _, fun _ _ => rfl⟩ | exact HW2.out | (go_grown; done)).trans (hb.mono (by first | omega | (simp; done) | (simp; omega)))
  clear hb lt0 c0_0 c0_1 hbw2
  have HH0_3 := Lib.hid hh0
  have lt0 := heap_lt hh0
  have c0_0 : w3.cell? ⟨w.heap.size, 0, none⟩ = some (.int .i64 s) := by rw [Lib.cell_of_heap hh0]; rfl
  have c0_1 : w3.cell? ⟨w.heap.size, 1, none⟩ = some (.int .i64 n) := by rw [Lib.cell_of_heap hh0]; rfl
  clear hh0
  have sz3 := hbw3.size
  have HW3 := Lib.hid hbw3
  go_wp2_with fail
  refine (A3.out _ (by first | exact HW3.out | exact HW3.out.trans ⟨rfl, rfl, rfl, Nat.le_refl _, fun _ _ => rfl⟩ | (go_grown; done))).mono ?_; rintro e w4 ⟨rfl, hb⟩
  have hv0 := HH0_3.out
  have hh0 : w4.heap[w.heap.size]? = some (.cells #[.int .i64 s, .int .i64 n] 84 (0, 0)) := (hb.block _ (heap_lt hv0)).trans hv0
  clear hv0
  have hbw4 : Below w.heap.size w w4 := (show Below w.heap.size w _ by first | exact HW3.out.trans ⟨rfl, rfl, rfl, Nat.le_refl _, fun _ _ => rfl⟩ | exact HW3.out | (go_grown; done)).trans (hb.mono (by first | omega | (simp; done) | (simp; omega)))
  clear hb lt0 c0_0 c0_1 hbw3
  have HH0_4 := Lib.hid hh0
  have lt0 := heap_lt hh0
  have c0_0 : w4.cell? ⟨w.heap.size, 0, none⟩ = some (.int .i64 s) := by rw [Lib.cell_of_heap hh0]; rfl
  have c0_1 : w4.cell? ⟨w.heap.size, 1, none⟩ = some (.int .i64 n) := by rw [Lib.cell_of_heap hh0]; rfl
  clear hh0
  have sz4 := hbw4.size
  have HW4 := Lib.hid hbw4
  go_wp2_with fail
  refine (A4.out _ (by first | exact HW4.out | exact HW4.out.trans ⟨rfl, rfl, rfl, Nat.le_refl _, fun _ _ => rfl⟩ | (go_grown; done))).mono ?_; rintro e w5 ⟨rfl, hb⟩
  have hv0 := HH0_4.out
  have hh0 : w5.heap[w.heap.size]? = some (.cells #[.int .i64 s, .int .i64 n] 84 (0, 0)) := (hb.block _ (heap_lt hv0)).trans hv0
  clear hv0
  have hbw5 : Below w.heap.size w w5 := (show Below w.heap.size w _ by first | exact HW4.out.trans ⟨rfl, rfl, rfl, Nat.le_refl _, fun _ _ => rfl⟩ | exact HW4.out | (go_grown; done)).trans (hb.mono (by first | omega | (simp; done) | (simp; omega)))
  clear hb lt0 c0_0 c0_1 hbw4
  have HH0_5 := Lib.hid hh0
  have lt0 := heap_lt hh0
  have c0_0 : w5.cell? ⟨w.heap.size, 0, none⟩ = some (.int .i64 s) := by rw [Lib.cell_of_heap hh0]; rfl
  have c0_1 : w5.cell? ⟨w.heap.size, 1, none⟩ = some (.int .i64 n) := by rw [Lib.cell_of_heap hh0]; rfl
  clear hh0
  have sz5 := hbw5.size
  have HW5 := Lib.hid hbw5
  go_wp2_with fail
  refine (A5.out _ (by first | exact HW5.out | exact HW5.out.trans ⟨rfl, rfl, rfl, Nat.le_refl _, fun _ _ => rfl⟩ | (go_grown; done))).mono ?_; rintro e w6 ⟨rfl, hb⟩
  have hv0 := HH0_5.out
  have hh0 : w6.heap[w.heap.size]? = some (.cells #[.int .i64 s, .int .i64 n] 84 (0, 0)) := (hb.block _ (heap_lt hv0)).trans hv0
  clear hv0
  have hbw6 : Below w.heap.size w w6 := (show Below w.heap.size w _ by first | exact HW5.out.trans ⟨rfl, rfl, rfl, Nat.le_refl _, fun _ _ => rfl⟩ | exact HW5.out | (go_grown; done)).trans (hb.mono (by first | omega | (simp; done) | (simp; omega)))
  clear hb lt0 c0_0 c0_1 hbw5
  have HH0_6 := Lib.hid hh0
  have lt0 := heap_lt hh0
  have c0_0 : w6.cell? ⟨w.heap.size, 0, none⟩ = some (.int .i64 s) := by rw [Lib.cell_of_heap hh0]; rfl
  have c0_1 : w6.cell? ⟨w.heap.size, 1, none⟩ = some (.int .i64 n) := by rw [Lib.cell_of_heap hh0]; rfl
  clear hh0
  have sz6 := hbw6.size
  have HW6 := Lib.hid hbw6
  go_wp2_with fail
  refine (A6.out _ (by first | exact HW6.out | exact HW6.out.trans ⟨rfl, rfl, rfl, Nat.le_refl _, fun _ _ => rfl⟩ | (go_grown; done))).mono ?_; rintro e w7 ⟨rfl, hb⟩
  have hv0 := HH0_6.out
  have hh0 : w7.heap[w.heap.size]? = some (.cells #[.int .i64 s, .int .i64 n] 84 (0, 0)) := (hb.block _ (heap_lt hv0)).trans hv0
  clear hv0
  have hbw7 : Below w.heap.size w w7 := (show Below w.heap.size w _ by first | exact HW6.out.trans ⟨rfl, rfl, rfl, Nat.le_refl _, fun _ _ => rfl⟩ | exact HW6.out | (go_grown; done)).trans (hb.mono (by first | omega | (simp; done) | (simp; omega)))
  clear hb lt0 c0_0 c0_1 hbw6
  have HH0_7 := Lib.hid hh0
  have lt0 := heap_lt hh0
  have c0_0 : w7.cell? ⟨w.heap.size, 0, none⟩ = some (.int .i64 s) := by rw [Lib.cell_of_heap hh0]; rfl
  have c0_1 : w7.cell? ⟨w.heap.size, 1, none⟩ = some (.int .i64 n) := by rw [Lib.cell_of_heap hh0]; rfl
  clear hh0
  have sz7 := hbw7.size
  have HW7 := Lib.hid hbw7
  go_wp2_with fail
  refine (A7.out _ (by first | exact HW7.out | exact HW7.out.trans ⟨rfl, rfl, rfl, Nat.le_refl _, fun _ _ => rfl⟩ | (go_grown; done))).mono ?_; rintro e w8 ⟨rfl, hb⟩
  have hv0 := HH0_7.out
  have hh0 : w8.heap[w.heap.size]? = some (.cells #[.int .i64 s, .int .i64 n] 84 (0, 0)) := (hb.block _ (heap_lt hv0)).trans hv0
  clear hv0
  have hbw8 : Below w.heap.size w w8 := (show Below w.heap.size w _ by first | exact HW7.out.trans ⟨rfl, rfl, rfl, Nat.le_refl _, fun _ _ => rfl⟩ | exact HW7.out | (go_grown; done)).trans (hb.mono (by first | omega | (simp; done) | (simp; omega)))
  clear hb lt0 c0_0 c0_1 hbw7
  have HH0_8 := Lib.hid hh0
  have lt0 := heap_lt hh0
  have c0_0 : w8.cell? ⟨w.heap.size, 0, none⟩ = some (.int .i64 s) := by rw [Lib.cell_of_heap hh0]; rfl
  have c0_1 : w8.cell? ⟨w.heap.size, 1, none⟩ = some (.int .i64 n) := by rw [Lib.cell_of_heap hh0]; rfl
  clear hh0
  have sz8 := hbw8.size
  have HW8 := Lib.hid hbw8
  go_wp2_with fail
  refine (A8.out _ (by first | exact HW8.out | exact HW8.out.trans ⟨rfl, rfl, rfl, Nat.le_refl _, fun _ _ => rfl⟩ | (go_grown; done))).mono ?_; rintro e w9 ⟨rfl, hb⟩
  have hv0 := HH0_8.out
  have hh0 : w9.heap[w.heap.size]? = some (.cells #[.int .i64 s, .int .i64 n] 84 (0, 0)) := (hb.block _ (heap_lt hv0)).trans hv0
  clear hv0
  have hbw9 : Below w.heap.size w w9 := (show Below w.heap.size w _ by first | exact HW8.out.trans ⟨rfl, rfl, rfl, Nat.le_refl _, fun _ _ => rfl⟩ | exact HW8.out | (go_grown; done)).trans (hb.mono (by first | omega | (simp; done) | (simp; omega)))
  clear hb lt0 c0_0 c0_1 hbw8
  have HH0_9 := Lib.hid hh0
  have lt0 := heap_lt hh0
  have c0_0 : w9.cell? ⟨w.heap.size, 0, none⟩ = some (.int .i64 s) := by rw [Lib.cell_of_heap hh0]; rfl
  have c0_1 : w9.cell? ⟨w.heap.size, 1, none⟩ = some (.int .i64 n) := by rw [Lib.cell_of_heap hh0]; rfl
  clear hh0
  have sz9 := hbw9.size
  have HW9 := Lib.hid hbw9
  go_wp2_with fail
  go_ret2
  exact ⟨rfl, by first | exact HW9.out | (go_grown; done)⟩
end Go.Proofs.YtjhgiojmlkeccaaGreatDoor
namespace Go.Proofs.YtjhgiojmlkeccaaGreatDoor
open Go.RowKit Go.Shelf
/-- The digits of a fraction, without noughts behind. -/
def fracD (n : Int) : List UInt8 := Lib.trimRightB (digD n 9) 48
def dTextL (s n : Int) : List UInt8 :=
  digD (dateY (s / 86400 + -60)) 4 ++ [45] ++ digD (dateM (s / 86400 + -60)) 2 ++ [45] ++ digD (dateDD (s / 86400 + -60)) 2 ++ [84] ++ digD (s % 86400 / 3600) 2 ++ [58] ++ digD (s % 86400 / 60 % 60) 2 ++ [58] ++ digD (s % 86400 % 60) 2 ++
    (if 0 < n then 46 :: fracD n else []) ++ [90]
/-- A day's text, and the error. -/
def dText (s n : Int) : List UInt8 × Int := if dchk s n = 0 then (dTextL s n, 0) else ([], 120)
theorem dateY_bd (n : Int) (h0 : -1000 ≤ n) (h1 : n ≤ 4000000) : R (dateY n) := by
  have := eraY_bd (eraR n) (eraR_bd n).1 (eraR_bd n).2
  unfold dateY R
  split <;> omega
theorem dateM_bd (n : Int) : R (dateM n) := by
  have := monthD_bd (eraD (eraR n))
  unfold dateM R
  split <;> omega
theorem dateD_bd (n : Int) : R (dateDD n) := by
  have h1 := eraD_bd (eraR n) (eraR_bd n).1 (eraR_bd n).2
  have h2 := aheadD_bd (monthD (eraD (eraR n)))
  unfold dateDD R
  omega
theorem digD_len (n : Int) (hr : R n) (many : Nat) (hm : many ≤ 20) : (⟨(digD n many).toArray⟩ : ByteArray).size ≤ 41 := by
  rw [len_mk]
  unfold digD
  rw [List.length_append, List.length_replicate]
  have := len_itoa hr
  omega
theorem trimRB_len (l : List UInt8) (c : UInt8) : (Lib.trimRightB l c).length ≤ l.length := by
  unfold Lib.trimRightB
  rw [List.length_reverse]
  refine Nat.le_trans (List.dropWhile_sublist _).length_le ?_
  rw [List.length_reverse]; exact Nat.le_refl _
theorem dchk_0 {s n : Int} (h : dchk s n = 0) : 0 ≤ s ∧ s ≤ 315569519999 ∧ 0 ≤ n ∧ n ≤ 999999999 := by
  unfold dchk at h
  split at h
  · assumption
  · cases h
set_option maxRecDepth 100000 in
set_option maxHeartbeats 4000000 in
theorem dtext_any (s n : Int) (w : World) (ht : EnvT w) :
    Calls Tryz.prog 51 #[.agg #[.int .i64 s, .int .i64 n]] w fun e w' => e = .returned (.tuple #[.string ⟨(dText s n).1.toArray⟩, .int .i64 (dText s n).2]) ∧ Below w.heap.size w w' := by
  have HC : DoesU w 76 #[.agg #[.int .i64 s, .int .i64 n]] (.int .i64 (dchk s n)) := fun W _ => dcheck_any s n W
  unfold dText
  by_cases h : dchk s n = 0
  · rw [if_pos h]
    rw [h] at HC
    obtain ⟨hs0, hs1, hn0, hn1⟩ := dchk_0 h
    obtain ⟨k, hk⟩ : ∃ k, s / 86400 + -60 = k := ⟨_, rfl⟩
    have hkb : -1000 ≤ k ∧ k ≤ 4000000 := by omega
    have HDt : DoesU w 74 #[.int .i64 (s / 86400 + -60)] (.tuple #[.int .i64 (dateY k), .int .i64 (dateM k), .int .i64 (dateDD k)]) := fun W _ => by
      rw [hk]
      exact (date_any k hkb.1 hkb.2 W).mono fun e w' ⟨a, b⟩ => ⟨a, by rw [b]; exact Below.refl _ _⟩
    have HD : DoesU w 77 #[.agg #[.int .i64 s, .int .i64 n]] (.tuple #[.int .i64 (dateY k), .int .i64 (dateM k), .int .i64 (dateDD k), .int .i64 0]) := fun W hW => ddate_go s n _ _ _ hs0 hs1 W (Lib.hid (HC.below hW)) (Lib.hid (HDt.below hW))
    have HG : ∀ (x : Int) (many : Nat), R x → many ≤ 20 → DoesU w 78 #[.int .i64 x, .int .i64 (many : Nat)] (.string ⟨(digD x many).toArray⟩) := fun x many hx hm W hW => ddigits_any x hx many hm W (EnvT.stays ht hW)
    have ry := dateY_bd k hkb.1 hkb.2
    have rm := dateM_bd k
    have rd := dateD_bd k
    have r4 : R (s % 86400 / 3600) := by unfold R; omega
    have r5 : R (s % 86400 / 60 % 60) := by unfold R; omega
    have r6 : R (s % 86400 % 60) := by unfold R; omega
    unfold dTextL
    rw [hk]
    by_cases hn : 0 < n
    · rw [if_pos hn]
      have r7 : R n := by unfold R; omega
      have H8 : DoesU w 79 #[.string ⟨(digD n 9).toArray⟩, .string ⟨#[48]⟩] (.string ⟨(fracD n).toArray⟩) := fun W _ => by
        refine (Tryz.strings_TrimRight_one ⟨(digD n 9).toArray⟩ 48 (by decide) W ?_).mono fun e w' ⟨a, b⟩ => ⟨a, by rw [b]; exact Below.refl _ _⟩
        have := digD_len n r7 9 (by omega)
        omega
      have l8 : (⟨(fracD n).toArray⟩ : ByteArray).size ≤ 41 := by
        have h1 := digD_len n r7 9 (by omega)
        have h2 := trimRB_len (digD n 9) 48
        rw [len_mk] at h1 ⊢
        unfold fracD
        omega
      refine (dtext_n s n _ _ _ _ _ _ _ _ _ _ _ _ _ _ _ _ hs0 hs1 rfl (by omega) (by omega) rfl rfl (by omega) (by omega) rfl rfl (by simpa using hn) (digD_len _ ry 4 (by omega)) (digD_len _ rm 2 (by omega)) (digD_len _ rd 2 (by omega)) (digD_len _ r4 2 (by omega)) (digD_len _ r5 2 (by omega)) (digD_len _ r6 2 (by omega)) l8 w (Lib.hid HD) (Lib.hid (HG _ 4 ry (by omega))) (Lib.hid (HG _ 2 rm (by omega))) (Lib.hid (HG _ 2 rd (by omega))) (Lib.hid (HG _ 2 r4 (by omega))) (Lib.hid (HG _ 2 r5 (by omega))) (Lib.hid (HG _ 2 r6 (by omega))) (Lib.hid (HG _ 9 r7 (by omega))) (Lib.hid H8)).mono fun e w' ⟨a, b⟩ => ⟨?_, b⟩
      rw [a]
      have e45 : (⟨#[45]⟩ : ByteArray) = ⟨([45] : List UInt8).toArray⟩ := rfl
      have e84 : (⟨#[84]⟩ : ByteArray) = ⟨([84] : List UInt8).toArray⟩ := rfl
      have e58 : (⟨#[58]⟩ : ByteArray) = ⟨([58] : List UInt8).toArray⟩ := rfl
      have e46 : (⟨#[46]⟩ : ByteArray) = ⟨([46] : List UInt8).toArray⟩ := rfl
      have e90 : (⟨#[90]⟩ : ByteArray) = ⟨([90] : List UInt8).toArray⟩ := rfl
      rw [e45, e84, e58, e46, e90]
      simp only [cat, List.cons_append, List.nil_append]
    · rw [if_neg hn]
      refine (dtext_0 s n _ _ _ _ _ _ _ _ _ _ _ _ _ _ hs0 hs1 rfl (by omega) (by omega) rfl rfl (by omega) (by omega) rfl rfl (by simpa using hn) (digD_len _ ry 4 (by omega)) (digD_len _ rm 2 (by omega)) (digD_len _ rd 2 (by omega)) (digD_len _ r4 2 (by omega)) (digD_len _ r5 2 (by omega)) (digD_len _ r6 2 (by omega)) w (Lib.hid HD) (Lib.hid (HG _ 4 ry (by omega))) (Lib.hid (HG _ 2 rm (by omega))) (Lib.hid (HG _ 2 rd (by omega))) (Lib.hid (HG _ 2 r4 (by omega))) (Lib.hid (HG _ 2 r5 (by omega))) (Lib.hid (HG _ 2 r6 (by omega)))).mono fun e w' ⟨a, b⟩ => ⟨?_, b⟩
      rw [a]
      have e45 : (⟨#[45]⟩ : ByteArray) = ⟨([45] : List UInt8).toArray⟩ := rfl
      have e84 : (⟨#[84]⟩ : ByteArray) = ⟨([84] : List UInt8).toArray⟩ := rfl
      have e58 : (⟨#[58]⟩ : ByteArray) = ⟨([58] : List UInt8).toArray⟩ := rfl
      have e90 : (⟨#[90]⟩ : ByteArray) = ⟨([90] : List UInt8).toArray⟩ := rfl
      rw [e45, e84, e58, e90]
      simp only [cat, List.append_nil]
  · have h120 : dchk s n = 120 := by unfold dchk at h ⊢; split <;> simp_all
    rw [if_neg h]
    rw [h120] at HC
    exact dtext_no s n w (Lib.hid fun W hW => ddate_no s n W (Lib.hid (HC.below hW)))
set_option maxRecDepth 100000 in
set_option maxHeartbeats 4000000 in
theorem sdate_no (s : ByteArray) (a b e0 : Int) (he : (e0 != 0) = true) (w : World) (H1 : Hid (DoesU w 50 #[.string s] (.tuple #[.agg #[.int .i64 a, .int .i64 b], .int .i64 e0]))) :
    Calls Tryz.prog 33 #[.string s] w fun e w' => e = .returned (.tuple #[.string ⟨#[]⟩, .int .i64 e0]) ∧ Below w.heap.size w w' := by
  go_enter Tryz.func33, Tryz.ntmps33
  go_wp2_with fail
  refine (H1.out _ (by first | exact Below.refl _ _ | (go_grown; done))).mono ?_; rintro e w1 ⟨rfl, hb⟩
  have hbw1 : Below w.heap.size w w1 := (show Below w.heap.size w _ by first | exact Below.refl _ _ | (go_grown; done)).trans (hb.mono (by first | omega | (simp; done) | (simp; omega)))
  clear hb
  have sz1 := hbw1.size
  have HW1 := Lib.hid hbw1
  go_wp2_with fail
  go_ret2
  exact ⟨rfl, by first | exact HW1.out | (go_grown; done)⟩
set_option maxRecDepth 100000 in
set_option maxHeartbeats 4000000 in
theorem sdate_go (s t : ByteArray) (a b e0 : Int) (w : World) (H1 : Hid (DoesU w 50 #[.string s] (.tuple #[.agg #[.int .i64 a, .int .i64 b], .int .i64 0]))) (H2 : Hid (DoesU w 51 #[.agg #[.int .i64 a, .int .i64 b]] (.tuple #[.string t, .int .i64 e0]))) :
    Calls Tryz.prog 33 #[.string s] w fun e w' => e = .returned (.tuple #[.string t, .int .i64 e0]) ∧ Below w.heap.size w w' := by
  go_enter Tryz.func33, Tryz.ntmps33
  go_wp2_with fail
  refine (H1.out _ (by first | exact Below.refl _ _ | (go_grown; done))).mono ?_; rintro e w1 ⟨rfl, hb⟩
  have hbw1 : Below w.heap.size w w1 := (show Below w.heap.size w _ by first | exact Below.refl _ _ | (go_grown; done)).trans (hb.mono (by first | omega | (simp; done) | (simp; omega)))
  clear hb
  have sz1 := hbw1.size
  have HW1 := Lib.hid hbw1
  go_wp2_with fail
  refine (H2.out _ (by first | exact HW1.out | exact HW1.out.trans ⟨rfl, rfl, rfl, Nat.le_refl _, fun _ _ => rfl⟩ | (go_grown; done))).mono ?_; rintro e w2 ⟨rfl, hb⟩
  have hh0 : w2.heap[w1.heap.size]? = some (.cells #[.int .i64 a, .int .i64 b] 84 (0, 0)) := (hb.block _ (by first | omega | (simp; done) | (simp; omega))).trans (heap_new _ _ _ (by first | rfl | simp))
  have hbw2 : Below w.heap.size w w2 := (show Below w.heap.size w _ by first | exact HW1.out.trans ⟨rfl, rfl, rfl, Nat.le_refl _, fun _ _ => rfl⟩ | exact HW1.out | (go_grown; done)).trans (hb.mono (by first | omega | (simp; done) | (simp; omega)))
  clear hb hbw1
  have HH0_2 := Lib.hid hh0
  have lt0 := heap_lt hh0
  have c0_0 : w2.cell? ⟨w1.heap.size, 0, none⟩ = some (.int .i64 a) := by rw [Lib.cell_of_heap hh0]; rfl
  have f0_0 : w2.frozen? ⟨w1.heap.size, 0, none⟩ = false := Lib.frozen_of_heap hh0 0
  have c0_1 : w2.cell? ⟨w1.heap.size, 1, none⟩ = some (.int .i64 b) := by rw [Lib.cell_of_heap hh0]; rfl
  have f0_1 : w2.frozen? ⟨w1.heap.size, 1, none⟩ = false := Lib.frozen_of_heap hh0 1
  clear hh0
  have sz2 := hbw2.size
  have HW2 := Lib.hid hbw2
  go_wp2_with fail
  go_ret2
  exact ⟨rfl, by first | exact HW2.out | (go_grown; done)⟩
set_option maxRecDepth 100000 in
set_option maxHeartbeats 4000000 in
theorem days_any (ka kb : Int) (nma txa nmb txb : ByteArray) (na ma nb mb : Int) (a s ea b t eb r : Int) (w : World) (H1 : Hid (DoesU w 50 #[.string txa] (.tuple #[.agg #[.int .i64 a, .int .i64 s], .int .i64 ea]))) (H2 : Hid (DoesU w 50 #[.string txb] (.tuple #[.agg #[.int .i64 b, .int .i64 t], .int .i64 eb])))
    (H3 : Hid (DoesU w 52 #[.agg #[.int .i64 a, .int .i64 s], .agg #[.int .i64 b, .int .i64 t]] (.int .i64 r))) :
    Calls Tryz.prog 34 #[.agg #[.int .u8 ka, .string nma, .string txa, .int .i64 na, .int .i64 ma], .agg #[.int .u8 kb, .string nmb, .string txb, .int .i64 nb, .int .i64 mb]] w fun e w' => e = .returned (.int .i64 r) ∧ Below w.heap.size w w' := by
  go_enter Tryz.func34, Tryz.ntmps34
  go_wp2_with fail
  refine (H1.out _ (by first | exact Below.refl _ _ | (go_grown; done))).mono ?_; rintro e w1 ⟨rfl, hb⟩
  have hh0 : w1.heap[w.heap.size]? = some (.cells #[.int .u8 ka, .string nma, .string txa, .int .i64 na, .int .i64 ma] 23 (0, 0)) := (hb.block _ (by first | omega | (simp; done) | (simp; omega))).trans (heap_old (o' := (.cells #[.int .u8 kb, .string nmb, .string txb, .int .i64 nb, .int .i64 mb] 23 (0, 0))) (heap_new _ _ _ (by first | rfl | simp)))
  have hh1 : w1.heap[w.heap.size + 1]? = some (.cells #[.int .u8 kb, .string nmb, .string txb, .int .i64 nb, .int .i64 mb] 23 (0, 0)) := (hb.block _ (by first | omega | (simp; done) | (simp; omega))).trans (heap_new _ _ _ (by first | rfl | simp))
  have hbw1 : Below w.heap.size w w1 := (show Below w.heap.size w _ by first | exact Below.refl _ _ | (go_grown; done)).trans (hb.mono (by first | omega | (simp; done) | (simp; omega)))
  clear hb
  have HH0_1 := Lib.hid hh0
  have lt0 := heap_lt hh0
  have c0_0 : w1.cell? ⟨w.heap.size, 0, none⟩ = some (.int .u8 ka) := by rw [Lib.cell_of_heap hh0]; rfl
  have c0_1 : w1.cell? ⟨w.heap.size, 1, none⟩ = some (.string nma) := by rw [Lib.cell_of_heap hh0]; rfl
  have c0_2 : w1.cell? ⟨w.heap.size, 2, none⟩ = some (.string txa) := by rw [Lib.cell_of_heap hh0]; rfl
  have c0_3 : w1.cell? ⟨w.heap.size, 3, none⟩ = some (.int .i64 na) := by rw [Lib.cell_of_heap hh0]; rfl
  have c0_4 : w1.cell? ⟨w.heap.size, 4, none⟩ = some (.int .i64 ma) := by rw [Lib.cell_of_heap hh0]; rfl
  clear hh0
  have HH1_1 := Lib.hid hh1
  have lt1 := heap_lt hh1
  have c1_0 : w1.cell? ⟨w.heap.size + 1, 0, none⟩ = some (.int .u8 kb) := by rw [Lib.cell_of_heap hh1]; rfl
  have c1_1 : w1.cell? ⟨w.heap.size + 1, 1, none⟩ = some (.string nmb) := by rw [Lib.cell_of_heap hh1]; rfl
  have c1_2 : w1.cell? ⟨w.heap.size + 1, 2, none⟩ = some (.string txb) := by rw [Lib.cell_of_heap hh1]; rfl
  have c1_3 : w1.cell? ⟨w.heap.size + 1, 3, none⟩ = some (.int .i64 nb) := by rw [Lib.cell_of_heap hh1]; rfl
  have c1_4 : w1.cell? ⟨w.heap.size + 1, 4, none⟩ = some (.int .i64 mb) := by rw [Lib.cell_of_heap hh1]; rfl
  clear hh1
  have sz1 := hbw1.size
  have HW1 := Lib.hid hbw1
  go_wp2_with fail
  refine (H2.out _ (by first | exact HW1.out | exact HW1.out.trans ⟨rfl, rfl, rfl, Nat.le_refl _, fun _ _ => rfl⟩ | (go_grown; done))).mono ?_; rintro e w2 ⟨rfl, hb⟩
  have hv0 := heap_old (o' := (.cells #[.int .i64 a, .int .i64 s] 84 (0, 0))) (HH0_1.out)
  have hh0 : w2.heap[w.heap.size]? = some (.cells #[.int .u8 ka, .string nma, .string txa, .int .i64 na, .int .i64 ma] 23 (0, 0)) := (hb.block _ (heap_lt hv0)).trans hv0
  clear hv0
  have hv1 := heap_old (o' := (.cells #[.int .i64 a, .int .i64 s] 84 (0, 0))) (HH1_1.out)
  have hh1 : w2.heap[w.heap.size + 1]? = some (.cells #[.int .u8 kb, .string nmb, .string txb, .int .i64 nb, .int .i64 mb] 23 (0, 0)) := (hb.block _ (heap_lt hv1)).trans hv1
  clear hv1
  have hh2 : w2.heap[w1.heap.size]? = some (.cells #[.int .i64 a, .int .i64 s] 84 (0, 0)) := (hb.block _ (by first | omega | (simp; done) | (simp; omega))).trans (heap_new _ _ _ (by first | rfl | simp))
  have hbw2 : Below w.heap.size w w2 := (show Below w.heap.size w _ by first | exact HW1.out.trans ⟨rfl, rfl, rfl, Nat.le_refl _, fun _ _ => rfl⟩ | exact HW1.out | (go_grown; done)).trans (hb.mono (by first | omega | (simp; done) | (simp; omega)))
  clear hb lt0 c0_0 c0_1 c0_2 c0_3 c0_4 lt1 c1_0 c1_1 c1_2 c1_3 c1_4 hbw1
  have HH0_2 := Lib.hid hh0
  have lt0 := heap_lt hh0
  have c0_0 : w2.cell? ⟨w.heap.size, 0, none⟩ = some (.int .u8 ka) := by rw [Lib.cell_of_heap hh0]; rfl
  have c0_1 : w2.cell? ⟨w.heap.size, 1, none⟩ = some (.string nma) := by rw [Lib.cell_of_heap hh0]; rfl
  have c0_2 : w2.cell? ⟨w.heap.size, 2, none⟩ = some (.string txa) := by rw [Lib.cell_of_heap hh0]; rfl
  have c0_3 : w2.cell? ⟨w.heap.size, 3, none⟩ = some (.int .i64 na) := by rw [Lib.cell_of_heap hh0]; rfl
  have c0_4 : w2.cell? ⟨w.heap.size, 4, none⟩ = some (.int .i64 ma) := by rw [Lib.cell_of_heap hh0]; rfl
  clear hh0
  have HH1_2 := Lib.hid hh1
  have lt1 := heap_lt hh1
  have c1_0 : w2.cell? ⟨w.heap.size + 1, 0, none⟩ = some (.int .u8 kb) := by rw [Lib.cell_of_heap hh1]; rfl
  have c1_1 : w2.cell? ⟨w.heap.size + 1, 1, none⟩ = some (.string nmb) := by rw [Lib.cell_of_heap hh1]; rfl
  have c1_2 : w2.cell? ⟨w.heap.size + 1, 2, none⟩ = some (.string txb) := by rw [Lib.cell_of_heap hh1]; rfl
  have c1_3 : w2.cell? ⟨w.heap.size + 1, 3, none⟩ = some (.int .i64 nb) := by rw [Lib.cell_of_heap hh1]; rfl
  have c1_4 : w2.cell? ⟨w.heap.size + 1, 4, none⟩ = some (.int .i64 mb) := by rw [Lib.cell_of_heap hh1]; rfl
  clear hh1
  have HH2_2 := Lib.hid hh2
  have lt2 := heap_lt hh2
  have c2_0 : w2.cell? ⟨w1.heap.size, 0, none⟩ = some (.int .i64 a) := by rw [Lib.cell_of_heap hh2]; rfl
  have f2_0 : w2.frozen? ⟨w1.heap.size, 0, none⟩ = false := Lib.frozen_of_heap hh2 0
  have c2_1 : w2.cell? ⟨w1.heap.size, 1, none⟩ = some (.int .i64 s) := by rw [Lib.cell_of_heap hh2]; rfl
  have f2_1 : w2.frozen? ⟨w1.heap.size, 1, none⟩ = false := Lib.frozen_of_heap hh2 1
  clear hh2
  have sz2 := hbw2.size
  have HW2 := Lib.hid hbw2
  go_wp2_with fail
  refine (H3.out _ (by first | exact HW2.out | exact HW2.out.trans ⟨rfl, rfl, rfl, Nat.le_refl _, fun _ _ => rfl⟩ | (go_grown; done))).mono ?_; rintro e w3 ⟨rfl, hb⟩
  have hv0 := heap_old (o' := (.cells #[.int .i64 b, .int .i64 t] 84 (0, 0))) (HH0_2.out)
  have hh0 : w3.heap[w.heap.size]? = some (.cells #[.int .u8 ka, .string nma, .string txa, .int .i64 na, .int .i64 ma] 23 (0, 0)) := (hb.block _ (heap_lt hv0)).trans hv0
  clear hv0
  have hv1 := heap_old (o' := (.cells #[.int .i64 b, .int .i64 t] 84 (0, 0))) (HH1_2.out)
  have hh1 : w3.heap[w.heap.size + 1]? = some (.cells #[.int .u8 kb, .string nmb, .string txb, .int .i64 nb, .int .i64 mb] 23 (0, 0)) := (hb.block _ (heap_lt hv1)).trans hv1
  clear hv1
  have hv2 := heap_old (o' := (.cells #[.int .i64 b, .int .i64 t] 84 (0, 0))) (HH2_2.out)
  have hh2 : w3.heap[w1.heap.size]? = some (.cells #[.int .i64 a, .int .i64 s] 84 (0, 0)) := (hb.block _ (heap_lt hv2)).trans hv2
  clear hv2
  have hh3 : w3.heap[w2.heap.size]? = some (.cells #[.int .i64 b, .int .i64 t] 84 (0, 0)) := (hb.block _ (by first | omega | (simp; done) | (simp; omega))).trans (heap_new _ _ _ (by first | rfl | simp))
  have hbw3 : Below w.heap.size w w3 := (show Below w.heap.size w _ by first | exact HW2.out.trans ⟨rfl, rfl, rfl, Nat.le_refl _, fun _ _ => rfl⟩ | exact HW2.out | (go_grown; done)).trans (hb.mono (by first | omega | (simp; done) | (simp; omega)))
  clear hb lt0 c0_0 c0_1 c0_2 c0_3 c0_4 lt1 c1_0 c1_1 c1_2 c1_3 c1_4 lt2 c2_0 f2_0 c2_1 f2_1 hbw2
  have HH0_3 := Lib.hid hh0
  have lt0 := heap_lt hh0
  have c0_0 : w3.cell? ⟨w.heap.size, 0, none⟩ = some (.int .u8 ka) := by rw [Lib.cell_of_heap hh0]; rfl
  have c0_1 : w3.cell? ⟨w.heap.size, 1, none⟩ = some (.string nma) := by rw [Lib.cell_of_heap hh0]; rfl
  have c0_2 : w3.cell? ⟨w.heap.size, 2, none⟩ = some (.string txa) := by rw [Lib.cell_of_heap hh0]; rfl
  have c0_3 : w3.cell? ⟨w.heap.size, 3, none⟩ = some (.int .i64 na) := by rw [Lib.cell_of_heap hh0]; rfl
  have c0_4 : w3.cell? ⟨w.heap.size, 4, none⟩ = some (.int .i64 ma) := by rw [Lib.cell_of_heap hh0]; rfl
  clear hh0
  have HH1_3 := Lib.hid hh1
  have lt1 := heap_lt hh1
  have c1_0 : w3.cell? ⟨w.heap.size + 1, 0, none⟩ = some (.int .u8 kb) := by rw [Lib.cell_of_heap hh1]; rfl
  have c1_1 : w3.cell? ⟨w.heap.size + 1, 1, none⟩ = some (.string nmb) := by rw [Lib.cell_of_heap hh1]; rfl
  have c1_2 : w3.cell? ⟨w.heap.size + 1, 2, none⟩ = some (.string txb) := by rw [Lib.cell_of_heap hh1]; rfl
  have c1_3 : w3.cell? ⟨w.heap.size + 1, 3, none⟩ = some (.int .i64 nb) := by rw [Lib.cell_of_heap hh1]; rfl
  have c1_4 : w3.cell? ⟨w.heap.size + 1, 4, none⟩ = some (.int .i64 mb) := by rw [Lib.cell_of_heap hh1]; rfl
  clear hh1
  have HH2_3 := Lib.hid hh2
  have lt2 := heap_lt hh2
  have c2_0 : w3.cell? ⟨w1.heap.size, 0, none⟩ = some (.int .i64 a) := by rw [Lib.cell_of_heap hh2]; rfl
  have f2_0 : w3.frozen? ⟨w1.heap.size, 0, none⟩ = false := Lib.frozen_of_heap hh2 0
  have c2_1 : w3.cell? ⟨w1.heap.size, 1, none⟩ = some (.int .i64 s) := by rw [Lib.cell_of_heap hh2]; rfl
  have f2_1 : w3.frozen? ⟨w1.heap.size, 1, none⟩ = false := Lib.frozen_of_heap hh2 1
  clear hh2
  have HH3_3 := Lib.hid hh3
  have lt3 := heap_lt hh3
  have c3_0 : w3.cell? ⟨w2.heap.size, 0, none⟩ = some (.int .i64 b) := by rw [Lib.cell_of_heap hh3]; rfl
  have f3_0 : w3.frozen? ⟨w2.heap.size, 0, none⟩ = false := Lib.frozen_of_heap hh3 0
  have c3_1 : w3.cell? ⟨w2.heap.size, 1, none⟩ = some (.int .i64 t) := by rw [Lib.cell_of_heap hh3]; rfl
  have f3_1 : w3.frozen? ⟨w2.heap.size, 1, none⟩ = false := Lib.frozen_of_heap hh3 1
  clear hh3
  have sz3 := hbw3.size
  have HW3 := Lib.hid hbw3
  go_wp2_with fail
  go_ret
  exact ⟨rfl, by first | exact HW3.out | (go_grown; done)⟩
theorem bytes_of (s : ByteArray) : (⟨s.data.toList.toArray⟩ : ByteArray) = s := by cases s; simp
def dayC : ByteArray → ByteArray × Int := fun s => if (dParse s.data.toList).2.2 = 0 then (⟨(dText (dParse s.data.toList).1 (dParse s.data.toList).2.1).1.toArray⟩, (dText (dParse s.data.toList).1 (dParse s.data.toList).2.1).2) else (⟨#[]⟩, (dParse s.data.toList).2.2)
theorem dparse_d (s : ByteArray) (hs : s.size ≤ 1000000) (w : World) : DoesU w 50 #[.string s] (.tuple #[.agg #[.int .i64 (dParse s.data.toList).1, .int .i64 (dParse s.data.toList).2.1], .int .i64 (dParse s.data.toList).2.2]) := fun W _ => by
  have := dparse_any s.data.toList (by rw [Array.length_toList]; exact hs) W
  rw [bytes_of] at this
  exact this
theorem day_c (w : World) (ht : EnvT w) : CanC w 33 #[] dayC := fun s hs W hW => by
  rw [app_nil]; unfold dayC
  have hP := dparse_d s (by omega) W
  have hT : ∀ a b : Int, DoesU W 51 #[.agg #[.int .i64 a, .int .i64 b]] (.tuple #[.string ⟨(dText a b).1.toArray⟩, .int .i64 (dText a b).2]) := fun a b W' hW' => dtext_any a b W' (EnvT.stays (EnvT.stays ht hW) hW')
  generalize dParse s.data.toList = p at *
  obtain ⟨a, b, e0⟩ := p
  dsimp only at *
  by_cases h : e0 = 0
  · subst h
    rw [if_pos rfl]
    exact sdate_go s _ a b _ W (Lib.hid hP) (Lib.hid (hT a b))
  · rw [if_neg h]
    exact sdate_no s a b e0 (by simpa using h) W (Lib.hid hP)
/-- The order of two DateTimes' texts. -/
def dayO (a b : ByteArray) : Int := orI (cmpI (dParse a.data.toList).1 (dParse b.data.toList).1) (cmpI (dParse a.data.toList).2.1 (dParse b.data.toList).2.1)
theorem days_c (ka kb : Int) (nma txa nmb txb : ByteArray) (na ma nb mb : Int) (ha : txa.size ≤ 1000000) (hb : txb.size ≤ 1000000) (w : World) : DoesU w 34 #[.agg #[.int .u8 ka, .string nma, .string txa, .int .i64 na, .int .i64 ma], .agg #[.int .u8 kb, .string nmb, .string txb, .int .i64 nb, .int .i64 mb]] (.int .i64 (dayO txa txb)) := fun W _ =>
  days_any ka kb nma txa nmb txb na ma nb mb _ _ _ _ _ _ _ W (Lib.hid (dparse_d txa ha W)) (Lib.hid (dparse_d txb hb W)) (Lib.hid fun W' _ => dcompare_any _ _ _ _ W')
theorem kind_5 (w : World) (hE : EnvS w) :
    Calls Tryz.prog 15 #[.int .u8 5] w fun e w' => (∃ cap : Array Value, e = .returned (.tuple #[.agg #[.func (.func 46) #[] cap, (.func (.func 34) #[] #[]), .nilFunc, .bool false], .int .i64 0]) ∧ PlC w' 46 cap (.func (.func 34) #[] #[]) .nilFunc false (toldR dayC)) ∧ Below w.heap.size w w' := by
  refine (of_5 w).mono ?_
  rintro e w1 ⟨⟨p5, rfl, h1⟩, hb⟩
  exact ⟨⟨_, rfl, plain_c _ _ _ _ _ _ w1 ent_told (told_c p5 _ #[] dayC w1 h1 (enters_of Tryz.func33 (by kernel_rfl) rfl) (hE.u.below hb) (day_c w1 (hE.r.stays hb).tab))⟩, hb⟩
end Go.Proofs.YtjhgiojmlkeccaaGreatDoor
namespace Go.Proofs.YtjhgiojmlkeccaaGreatDoor
open Go.RowKit Go.Shelf
theorem encode_high (r : Int) (h : 128 ≤ r) : 2 ≤ (Utf8.encode r).size ∧ ∀ (k : Nat) (hk : k < (Utf8.encode r).size), 128 ≤ ((Utf8.encode r)[k]).toNat := by
  have hc : ∃ c : Nat, 128 ≤ c ∧ c < 1114112 ∧ Utf8.encode r = (let b (n : Nat) : UInt8 := UInt8.ofNat n
      if c < 0x80 then ⟨#[b c]⟩
      else if c < 0x800 then ⟨#[b (0xC0 + c / 64), b (0x80 + c % 64)]⟩
      else if c < 0x10000 then ⟨#[b (0xE0 + c / 4096), b (0x80 + c / 64 % 64), b (0x80 + c % 64)]⟩
      else ⟨#[b (0xF0 + c / 262144), b (0x80 + c / 4096 % 64), b (0x80 + c / 64 % 64), b (0x80 + c % 64)]⟩) := by
    refine ⟨if Utf8.valid r then r.toNat else Utf8.runeError, ?_, ?_, rfl⟩
    · split
      · omega
      · decide
    · split
      · rename_i hv
        simp only [Utf8.valid, Bool.or_eq_true, Bool.and_eq_true, decide_eq_true_eq] at hv
        omega
      · decide
  obtain ⟨c, h1, h2, e⟩ := hc
  rw [e]
  simp only
  split
  · exfalso; omega
  split
  · refine ⟨by show 2 ≤ Array.size _; simp, ?_⟩
    intro k hk
    match k, hk with
    | 0, _ => show 128 ≤ (UInt8.ofNat (192 + c / 64)).toNat; rw [UInt8.toNat_ofNat']; omega
    | 1, _ => show 128 ≤ (UInt8.ofNat (128 + c % 64)).toNat; rw [UInt8.toNat_ofNat']; omega
  · split
    · refine ⟨by show 2 ≤ Array.size _; simp, ?_⟩
      intro k hk
      match k, hk with
      | 0, _ => show 128 ≤ (UInt8.ofNat (224 + c / 4096)).toNat; rw [UInt8.toNat_ofNat']; omega
      | 1, _ => show 128 ≤ (UInt8.ofNat (128 + c / 64 % 64)).toNat; rw [UInt8.toNat_ofNat']; omega
      | 2, _ => show 128 ≤ (UInt8.ofNat (128 + c % 64)).toNat; rw [UInt8.toNat_ofNat']; omega
    · refine ⟨by show 2 ≤ Array.size _; simp, ?_⟩
      intro k hk
      match k, hk with
      | 0, _ => show 128 ≤ (UInt8.ofNat (240 + c / 262144)).toNat; rw [UInt8.toNat_ofNat']; omega
      | 1, _ => show 128 ≤ (UInt8.ofNat (128 + c / 4096 % 64)).toNat; rw [UInt8.toNat_ofNat']; omega
      | 2, _ => show 128 ≤ (UInt8.ofNat (128 + c / 64 % 64)).toNat; rw [UInt8.toNat_ofNat']; omega
      | 3, _ => show 128 ≤ (UInt8.ofNat (128 + c % 64)).toNat; rw [UInt8.toNat_ofNat']; omega
theorem hex_high (k : Nat) (c : UInt8) (hc : 128 ≤ c.toNat) : Lib.indexByte ((⟨#[48, 49, 50, 51, 52, 53, 54, 55, 56, 57, 97, 98, 99, 100, 101, 102]⟩ : ByteArray).extract k 16).data.toList c = -1 := by
  rw [Lib.extract_data]
  obtain ⟨L, hL⟩ : ∃ L, List.take (16 - k) (List.drop k (⟨#[48, 49, 50, 51, 52, 53, 54, 55, 56, 57, 97, 98, 99, 100, 101, 102]⟩ : ByteArray).data.toList) = L := ⟨_, rfl⟩
  rw [hL]
  have hg := Lib.indexByte_ge L c
  refine Classical.byContradiction fun hn => ?_
  obtain ⟨o, ho⟩ : ∃ o : Nat, Lib.indexByte L c = o := ⟨(Lib.indexByte L c).toNat, by omega⟩
  have hm := List.mem_of_getElem? (Lib.indexByte_some ho).1
  rw [← hL] at hm
  have hm2 : c ∈ (⟨#[48, 49, 50, 51, 52, 53, 54, 55, 56, 57, 97, 98, 99, 100, 101, 102]⟩ : ByteArray).data.toList := List.mem_of_mem_drop (List.mem_of_mem_take hm)
  have h3 : ∀ x ∈ (⟨#[48, 49, 50, 51, 52, 53, 54, 55, 56, 57, 97, 98, 99, 100, 101, 102]⟩ : ByteArray).data.toList, x.toNat < 128 := by decide
  have := h3 c hm2
  omega
set_option maxRecDepth 100000 in
set_option maxHeartbeats 1000000 in
theorem hexr_none (r : Int) (h : 128 ≤ r) (h2 : r ≤ 2147483647) (w : World) :
    Calls Tryz.prog 82 #[.string ⟨#[48, 49, 50, 51, 52, 53, 54, 55, 56, 57, 97, 98, 99, 100, 101, 102]⟩, .int .i32 r] w fun e w' => e = .returned (.int .i64 (-1)) ∧ Below w.heap.size w w' := by
  have h0 : 0 ≤ r := by omega
  have h1 : ¬ r < 128 := by omega
  by_cases he : r = 65533
  · subst he
    have n0 := fun (w : World) ty => run_next_ascii (P := Tryz.prog) w ⟨#[48, 49, 50, 51, 52, 53, 54, 55, 56, 57, 97, 98, 99, 100, 101, 102]⟩ 0 ty (by decide) (by decide)
    have n1 := fun (w : World) ty => run_next_ascii (P := Tryz.prog) w ⟨#[48, 49, 50, 51, 52, 53, 54, 55, 56, 57, 97, 98, 99, 100, 101, 102]⟩ 1 ty (by decide) (by decide)
    have n2 := fun (w : World) ty => run_next_ascii (P := Tryz.prog) w ⟨#[48, 49, 50, 51, 52, 53, 54, 55, 56, 57, 97, 98, 99, 100, 101, 102]⟩ 2 ty (by decide) (by decide)
    have n3 := fun (w : World) ty => run_next_ascii (P := Tryz.prog) w ⟨#[48, 49, 50, 51, 52, 53, 54, 55, 56, 57, 97, 98, 99, 100, 101, 102]⟩ 3 ty (by decide) (by decide)
    have n4 := fun (w : World) ty => run_next_ascii (P := Tryz.prog) w ⟨#[48, 49, 50, 51, 52, 53, 54, 55, 56, 57, 97, 98, 99, 100, 101, 102]⟩ 4 ty (by decide) (by decide)
    have n5 := fun (w : World) ty => run_next_ascii (P := Tryz.prog) w ⟨#[48, 49, 50, 51, 52, 53, 54, 55, 56, 57, 97, 98, 99, 100, 101, 102]⟩ 5 ty (by decide) (by decide)
    have n6 := fun (w : World) ty => run_next_ascii (P := Tryz.prog) w ⟨#[48, 49, 50, 51, 52, 53, 54, 55, 56, 57, 97, 98, 99, 100, 101, 102]⟩ 6 ty (by decide) (by decide)
    have n7 := fun (w : World) ty => run_next_ascii (P := Tryz.prog) w ⟨#[48, 49, 50, 51, 52, 53, 54, 55, 56, 57, 97, 98, 99, 100, 101, 102]⟩ 7 ty (by decide) (by decide)
    have n8 := fun (w : World) ty => run_next_ascii (P := Tryz.prog) w ⟨#[48, 49, 50, 51, 52, 53, 54, 55, 56, 57, 97, 98, 99, 100, 101, 102]⟩ 8 ty (by decide) (by decide)
    have n9 := fun (w : World) ty => run_next_ascii (P := Tryz.prog) w ⟨#[48, 49, 50, 51, 52, 53, 54, 55, 56, 57, 97, 98, 99, 100, 101, 102]⟩ 9 ty (by decide) (by decide)
    have n10 := fun (w : World) ty => run_next_ascii (P := Tryz.prog) w ⟨#[48, 49, 50, 51, 52, 53, 54, 55, 56, 57, 97, 98, 99, 100, 101, 102]⟩ 10 ty (by decide) (by decide)
    have n11 := fun (w : World) ty => run_next_ascii (P := Tryz.prog) w ⟨#[48, 49, 50, 51, 52, 53, 54, 55, 56, 57, 97, 98, 99, 100, 101, 102]⟩ 11 ty (by decide) (by decide)
    have n12 := fun (w : World) ty => run_next_ascii (P := Tryz.prog) w ⟨#[48, 49, 50, 51, 52, 53, 54, 55, 56, 57, 97, 98, 99, 100, 101, 102]⟩ 12 ty (by decide) (by decide)
    have n13 := fun (w : World) ty => run_next_ascii (P := Tryz.prog) w ⟨#[48, 49, 50, 51, 52, 53, 54, 55, 56, 57, 97, 98, 99, 100, 101, 102]⟩ 13 ty (by decide) (by decide)
    have n14 := fun (w : World) ty => run_next_ascii (P := Tryz.prog) w ⟨#[48, 49, 50, 51, 52, 53, 54, 55, 56, 57, 97, 98, 99, 100, 101, 102]⟩ 14 ty (by decide) (by decide)
    have n15 := fun (w : World) ty => run_next_ascii (P := Tryz.prog) w ⟨#[48, 49, 50, 51, 52, 53, 54, 55, 56, 57, 97, 98, 99, 100, 101, 102]⟩ 15 ty (by decide) (by decide)
    have n16 := fun (w : World) ty => run_next_end (P := Tryz.prog) w ⟨#[48, 49, 50, 51, 52, 53, 54, 55, 56, 57, 97, 98, 99, 100, 101, 102]⟩ 16 ty (by decide)
    go_enter Tryz.func82, Tryz.ntmps82
    go_wp2_with fail
    refine wp_loop_rounds 17 ?_
    rw [rounds_succ]
    go_wp2_with fail
    rw [rounds_succ]
    go_wp2_with fail
    rw [rounds_succ]
    go_wp2_with fail
    rw [rounds_succ]
    go_wp2_with fail
    rw [rounds_succ]
    go_wp2_with fail
    rw [rounds_succ]
    go_wp2_with fail
    rw [rounds_succ]
    go_wp2_with fail
    rw [rounds_succ]
    go_wp2_with fail
    rw [rounds_succ]
    go_wp2_with fail
    rw [rounds_succ]
    go_wp2_with fail
    rw [rounds_succ]
    go_wp2_with fail
    rw [rounds_succ]
    go_wp2_with fail
    rw [rounds_succ]
    go_wp2_with fail
    rw [rounds_succ]
    go_wp2_with fail
    rw [rounds_succ]
    go_wp2_with fail
    rw [rounds_succ]
    go_wp2_with fail
    rw [rounds_succ]
    go_wp2_with fail
    go_ret
    refine ⟨rfl, ?_⟩
    unfold World.iter
    exact (Below.refl _ _).alloc (Nat.le_refl _) _
  · have HV := Lib.hid (fun w => Tryz.utf8_ValidRune r w)
    have HE := Lib.hid (encode_high r h)
    obtain ⟨vb, hvb⟩ : ∃ b, Lib.validRune r = b := ⟨_, rfl⟩
    rw [hvb] at HV
    clear hvb
    cases vb
    · go_enter Tryz.func82, Tryz.ntmps82
      go_wp2_with fail
      refine (HV.out _).mono ?_; rintro e w1 ⟨rfl, rfl⟩
      go_wp2_with fail
      go_ret
      exact ⟨rfl, Below.refl _ _⟩
    · obtain ⟨rs, hrs⟩ : ∃ rs : ByteArray, Utf8.encode r = rs := ⟨_, rfl⟩
      rw [hrs] at HE
      have hsz : 2 ≤ rs.size := HE.out.1
      have hsz4 : rs.size ≤ 4 := by rw [← hrs]; exact encode_size_le r
      have hcs : rs.size = 2 ∨ rs.size = 3 ∨ rs.size = 4 := by omega
      rcases hcs with hs | hs | hs
      · have hl : 128 ≤ (rs[1]'(by omega)).toNat := HE.out.2 1 (by omega)
        obtain ⟨c, hc⟩ : ∃ c : UInt8, rs[1]'(by omega) = c := ⟨_, rfl⟩
        rw [hc] at hl
        have hcg : ∀ hk, rs[1]'hk = c := fun _ => hc
        have hrest : (⟨#[48, 49, 50, 51, 52, 53, 54, 55, 56, 57, 97, 98, 99, 100, 101, 102]⟩ : ByteArray).extract 2 16 = ⟨#[50, 51, 52, 53, 54, 55, 56, 57, 97, 98, 99, 100, 101, 102]⟩ := rfl
        have HB : Hid (∀ W, Calls Tryz.prog 117 #[.string ⟨#[50, 51, 52, 53, 54, 55, 56, 57, 97, 98, 99, 100, 101, 102]⟩, .int .u8 (c.toNat : Int)] W fun e w' => e = .returned (.int .i64 (-1)) ∧ W = w') := Lib.hid fun W => by
          have := Tryz.strings_IndexByte ⟨#[50, 51, 52, 53, 54, 55, 56, 57, 97, 98, 99, 100, 101, 102]⟩ (c.toNat : Int) W
          rw [show ((c.toNat : Int)).toNat.toUInt8 = c by simp, ← hrest, hex_high 2 c hl] at this
          exact this.mono fun e w' ⟨a, b⟩ => ⟨a, b.symm⟩
        have hne : (((⟨#[48, 49, 50, 51, 52, 53, 54, 55, 56, 57, 97, 98, 99, 100, 101, 102]⟩ : ByteArray)[1]'(by decide)).toNat : Int) = 49 := rfl
        have hwr : IntKind.i64.wrap 2 = 2 := by decide
        have hl1 : ¬ ((49 : Int) = (c.toNat : Int)) := by omega
        clear hc
        go_enter Tryz.func82, Tryz.ntmps82
        go_wp2_with fail
        refine (HV.out _).mono ?_; rintro e w1 ⟨rfl, rfl⟩
        go_wp2_with fail
        go_step3
        go_wp2_with fail
        refine wp_loop_rounds 1 ?_
        rw [rounds_succ]
        go_wp2_with fail
        go_step3
        go_wp2_with fail
        go_quiet (fail)
        go_wp2_with fail
        go_region_held3 (fun W => Below w1.heap.size w1 W) (first | assumption | exact ⟨rfl, rfl, rfl, Nat.le_refl _, fun _ _ => rfl⟩) (first | (go_at_call 117; refine (HB.out _).mono ?_; rintro e w3 ⟨rfl, rfl⟩) | fail)
        rename_i hS
        go_wp2_with fail
        rw [Exit.noGoto_ret]
        go_wp2_with fail
        rw [Exit.noGoto_ret]
        go_ret
        exact ⟨rfl, hS⟩
      · have hl : 128 ≤ (rs[2]'(by omega)).toNat := HE.out.2 2 (by omega)
        obtain ⟨c, hc⟩ : ∃ c : UInt8, rs[2]'(by omega) = c := ⟨_, rfl⟩
        rw [hc] at hl
        have hcg : ∀ hk, rs[2]'hk = c := fun _ => hc
        have hrest : (⟨#[48, 49, 50, 51, 52, 53, 54, 55, 56, 57, 97, 98, 99, 100, 101, 102]⟩ : ByteArray).extract 3 16 = ⟨#[51, 52, 53, 54, 55, 56, 57, 97, 98, 99, 100, 101, 102]⟩ := rfl
        have HB : Hid (∀ W, Calls Tryz.prog 117 #[.string ⟨#[51, 52, 53, 54, 55, 56, 57, 97, 98, 99, 100, 101, 102]⟩, .int .u8 (c.toNat : Int)] W fun e w' => e = .returned (.int .i64 (-1)) ∧ W = w') := Lib.hid fun W => by
          have := Tryz.strings_IndexByte ⟨#[51, 52, 53, 54, 55, 56, 57, 97, 98, 99, 100, 101, 102]⟩ (c.toNat : Int) W
          rw [show ((c.toNat : Int)).toNat.toUInt8 = c by simp, ← hrest, hex_high 3 c hl] at this
          exact this.mono fun e w' ⟨a, b⟩ => ⟨a, b.symm⟩
        have hne : (((⟨#[48, 49, 50, 51, 52, 53, 54, 55, 56, 57, 97, 98, 99, 100, 101, 102]⟩ : ByteArray)[2]'(by decide)).toNat : Int) = 50 := rfl
        have hwr : IntKind.i64.wrap 3 = 3 := by decide
        have hl1 : ¬ ((50 : Int) = (c.toNat : Int)) := by omega
        clear hc
        go_enter Tryz.func82, Tryz.ntmps82
        go_wp2_with fail
        refine (HV.out _).mono ?_; rintro e w1 ⟨rfl, rfl⟩
        go_wp2_with fail
        go_step3
        go_wp2_with fail
        refine wp_loop_rounds 1 ?_
        rw [rounds_succ]
        go_wp2_with fail
        go_step3
        go_wp2_with fail
        go_quiet (fail)
        go_wp2_with fail
        go_region_held3 (fun W => Below w1.heap.size w1 W) (first | assumption | exact ⟨rfl, rfl, rfl, Nat.le_refl _, fun _ _ => rfl⟩) (first | (go_at_call 117; refine (HB.out _).mono ?_; rintro e w3 ⟨rfl, rfl⟩) | fail)
        rename_i hS
        go_wp2_with fail
        rw [Exit.noGoto_ret]
        go_wp2_with fail
        rw [Exit.noGoto_ret]
        go_ret
        exact ⟨rfl, hS⟩
      · have hl : 128 ≤ (rs[3]'(by omega)).toNat := HE.out.2 3 (by omega)
        obtain ⟨c, hc⟩ : ∃ c : UInt8, rs[3]'(by omega) = c := ⟨_, rfl⟩
        rw [hc] at hl
        have hcg : ∀ hk, rs[3]'hk = c := fun _ => hc
        have hrest : (⟨#[48, 49, 50, 51, 52, 53, 54, 55, 56, 57, 97, 98, 99, 100, 101, 102]⟩ : ByteArray).extract 4 16 = ⟨#[52, 53, 54, 55, 56, 57, 97, 98, 99, 100, 101, 102]⟩ := rfl
        have HB : Hid (∀ W, Calls Tryz.prog 117 #[.string ⟨#[52, 53, 54, 55, 56, 57, 97, 98, 99, 100, 101, 102]⟩, .int .u8 (c.toNat : Int)] W fun e w' => e = .returned (.int .i64 (-1)) ∧ W = w') := Lib.hid fun W => by
          have := Tryz.strings_IndexByte ⟨#[52, 53, 54, 55, 56, 57, 97, 98, 99, 100, 101, 102]⟩ (c.toNat : Int) W
          rw [show ((c.toNat : Int)).toNat.toUInt8 = c by simp, ← hrest, hex_high 4 c hl] at this
          exact this.mono fun e w' ⟨a, b⟩ => ⟨a, b.symm⟩
        have hne : (((⟨#[48, 49, 50, 51, 52, 53, 54, 55, 56, 57, 97, 98, 99, 100, 101, 102]⟩ : ByteArray)[3]'(by decide)).toNat : Int) = 51 := rfl
        have hwr : IntKind.i64.wrap 4 = 4 := by decide
        have hl1 : ¬ ((51 : Int) = (c.toNat : Int)) := by omega
        clear hc
        go_enter Tryz.func82, Tryz.ntmps82
        go_wp2_with fail
        refine (HV.out _).mono ?_; rintro e w1 ⟨rfl, rfl⟩
        go_wp2_with fail
        go_step3
        go_wp2_with fail
        refine wp_loop_rounds 1 ?_
        rw [rounds_succ]
        go_wp2_with fail
        go_step3
        go_wp2_with fail
        go_quiet (fail)
        go_wp2_with fail
        go_region_held3 (fun W => Below w1.heap.size w1 W) (first | assumption | exact ⟨rfl, rfl, rfl, Nat.le_refl _, fun _ _ => rfl⟩) (first | (go_at_call 117; refine (HB.out _).mono ?_; rintro e w3 ⟨rfl, rfl⟩) | fail)
        rename_i hS
        go_wp2_with fail
        rw [Exit.noGoto_ret]
        go_wp2_with fail
        rw [Exit.noGoto_ret]
        go_ret
        exact ⟨rfl, hS⟩
end Go.Proofs.YtjhgiojmlkeccaaGreatDoor
namespace Go.Proofs.YtjhgiojmlkeccaaGreatDoor
open Go.RowKit Go.Shelf
def dashU (k : Nat) : Bool := k == 8 || k == 13 || k == 18 || k == 23
/-- How many digits stand ahead of a place. -/
def ndU (k : Nat) : Nat := k - (if 23 < k then 4 else if 18 < k then 3 else if 13 < k then 2 else if 8 < k then 1 else 0)
def hexU (x : Nat) : UInt8 := if x < 10 then UInt8.ofNat (48 + x) else UInt8.ofNat (87 + x)
/-- A digit of bytes. -/
def nibU (u : Nat → Nat) (n : Nat) : Nat := if n % 2 = 0 then u (n / 2) / 16 else u (n / 2) % 16
def chrU (u : Nat → Nat) (k : Nat) : UInt8 := if dashU k then 45 else hexU (nibU u (ndU k))
def txtU (u : Nat → Nat) (k : Nat) : List UInt8 := (List.range k).map (chrU u)
theorem txtU_succ (u : Nat → Nat) (k : Nat) : txtU u (k + 1) = txtU u k ++ [chrU u k] := by
  unfold txtU; rw [List.range_succ, List.map_append]; rfl
theorem txtU_len (u : Nat → Nat) (k : Nat) : (txtU u k).length = k := by unfold txtU; simp
theorem ndU_succ (k : Nat) (hk : k < 36) : ndU (k + 1) = if dashU k then ndU k else ndU k + 1 := by
  have : ∀ k : Fin 36, ndU (k.1 + 1) = if dashU k.1 then ndU k.1 else ndU k.1 + 1 := by decide +kernel
  exact this ⟨k, hk⟩
theorem ndU_lt (k : Nat) (hk : k < 36) (hd : dashU k = false) : ndU k ≤ 31 := by
  have : ∀ k : Fin 36, dashU k.1 = false → ndU k.1 ≤ 31 := by decide +kernel
  exact this ⟨k, hk⟩ hd
theorem shape_at (k : Nat) (hk : k < (⟨#[120, 120, 120, 120, 120, 120, 120, 120, 45, 120, 120, 120, 120, 45, 120, 120, 120, 120, 45, 120, 120, 120, 120, 45, 120, 120, 120, 120, 120, 120, 120, 120, 120, 120, 120, 120]⟩ : ByteArray).size) : (((⟨#[120, 120, 120, 120, 120, 120, 120, 120, 45, 120, 120, 120, 120, 45, 120, 120, 120, 120, 45, 120, 120, 120, 120, 45, 120, 120, 120, 120, 120, 120, 120, 120, 120, 120, 120, 120]⟩ : ByteArray)[k]'hk).toNat : Int) = if dashU k then 45 else 120 := by
  have : ∀ k : Fin 36, (((⟨#[120, 120, 120, 120, 120, 120, 120, 120, 45, 120, 120, 120, 120, 45, 120, 120, 120, 120, 45, 120, 120, 120, 120, 45, 120, 120, 120, 120, 120, 120, 120, 120, 120, 120, 120, 120]⟩ : ByteArray)[k.1]'k.2).toNat : Int) = if dashU k.1 then 45 else 120 := by decide +kernel
  exact this ⟨k, hk⟩
theorem hex_at (x : Nat) (hx : x < (⟨#[48, 49, 50, 51, 52, 53, 54, 55, 56, 57, 97, 98, 99, 100, 101, 102]⟩ : ByteArray).size) : ((⟨#[48, 49, 50, 51, 52, 53, 54, 55, 56, 57, 97, 98, 99, 100, 101, 102]⟩ : ByteArray)[x]'hx) = hexU x := by
  have : ∀ x : Fin 16, ((⟨#[48, 49, 50, 51, 52, 53, 54, 55, 56, 57, 97, 98, 99, 100, 101, 102]⟩ : ByteArray)[x.1]'x.2) = hexU x.1 := by decide +kernel
  exact this ⟨x, hx⟩
theorem and15 (x : Nat) (hx : x < 256) : bits BinOp.and IntKind.u8 (x : Int) 15 = ((x % 16 : Nat) : Int) := by
  have : ∀ x : Fin 256, bits BinOp.and IntKind.u8 (x.1 : Int) 15 = ((x.1 % 16 : Nat) : Int) := by decide +kernel
  exact this ⟨x, hx⟩
set_option maxRecDepth 100000 in
set_option maxHeartbeats 4000000 in
theorem utext_any (X : Array Value) (u : Nat → Nat) (hX : X.size = 16) (hx : ∀ j, j < 16 → X[j]? = some (.int .u8 (u j : Int))) (hu : ∀ j, u j < 256) (w : World) :
    Calls Tryz.prog 54 #[.agg X] w fun e w' => e = .returned (.string ⟨(txtU u 36).toArray⟩) ∧ Below w.heap.size w w' := by
  have HX := Lib.hid hx
  have HU := Lib.hid hu
  obtain ⟨w0, hw0⟩ : ∃ w0 : World, w0 = w.alloc (.cells X 89 (0, 0)) := ⟨_, rfl⟩
  have HBX : Hid (w0.heap[w.heap.size]? = some (.cells X 89 (0, 0))) := Lib.hid (by rw [hw0]; exact heap_new _ _ _ rfl)
  clear hx hu
  obtain ⟨i0, hi, hz0, hz1, hz2⟩ := info_parts u8_info
  obtain ⟨w1, hm, hown, hg⟩ := run_make_own w0 (w.heap.size + 1) 131 5 i0 (.int .u8 0) 1 Tryz.underlying131 hi hz0 hz1 .i64 .i64 36 (by rw [hz2]; decide) (by decide) (by rw [hw0]; simp)
  have hz0' : w0.heap.size = w.heap.size + 1 := by rw [hw0]; simp
  have hb1 : Below w0.heap.size w0 w1 := (Below.refl _ _).grown hg (Nat.le_refl _) (fun k hk => by cases hk)
  rw [hz0'] at hm hown
  have HO0 : Hid (Own (w.heap.size + 1) (.slice (some ⟨w.heap.size + 1, 0, none⟩) 0 36) (txtU u 0) w1) := Lib.hid hown
  have HB0 := Lib.hid hb1
  have HW0 : Hid (Below w.heap.size w w0) := Lib.hid (by rw [hw0]; exact (Below.refl _ _).alloc (Nat.le_refl _) _)
  rw [show ((36 : Nat) : Int) = 36 from rfl] at hm
  rw [hw0] at hm
  clear hi hz0 hz1 hz2 hown hg hb1
  go_enter Tryz.func54, Tryz.ntmps54
  go_wp2_with fail
  clear hm
  clear hw0
  go_loopw [3, 4, 7] (fun v n i wr => ∃ (k : Nat) (ov : Value), v = ov ∧ k ≤ 36 ∧ i = .int .i64 k ∧ n = .int .i64 (ndU k : Nat) ∧ Hid (Own (w.heap.size + 1) ov (txtU u k) wr) ∧ Hid (Below w0.heap.size w0 wr)) (fun v n i wr => 36 - (intOf i).toNat)
  case atStart => exact ⟨0, _, rfl, Nat.zero_le _, rfl, rfl, HO0, HB0⟩
  case round =>
    rename World => wr
    obtain ⟨k, ov, rfl, hk, rfl, rfl, HO, HB⟩ := hrel
    have hzb : w0.heap.size ≤ wr.heap.size := HB.out.size
    by_cases hlk : k < 36
    · have hns := ndU_succ k hlk
      have hts := txtU_succ u k
      cases hd : dashU k with
      | true =>
        have hsh : ∀ h, (((⟨#[120, 120, 120, 120, 120, 120, 120, 120, 45, 120, 120, 120, 120, 45, 120, 120, 120, 120, 45, 120, 120, 120, 120, 45, 120, 120, 120, 120, 120, 120, 120, 120, 120, 120, 120, 120]⟩ : ByteArray)[k]'h).toNat : Int) = 45 := fun h => by rw [shape_at k h, if_pos hd]
        have hc : chrU u k = 45 := by unfold chrU; rw [if_pos hd]
        have HS : Hid (txtU u (k + 1) = txtU u k ++ [45] ∧ ndU (k + 1) = ndU k) := Lib.hid ⟨by rw [hts, hc], by rw [hns, if_pos hd]⟩
        clear hns hts hc hd
        have hlen := txtU_len u k
        obtain ⟨out, hout⟩ : ∃ l, txtU u k = l := ⟨_, rfl⟩
        rw [hout] at HO HS hlen
        obtain ⟨n, hn⟩ : ∃ n, ndU k = n := ⟨_, rfl⟩
        rw [hn] at HS ⊢
        have HOUT := Lib.hid hlen
        have hol : out.length ≤ 36 := by omega
        clear hout hn hlen
        go_wp2_with (at_builtin; refine wpList_push rfl _ _ rfl (w.heap.size + 1) _ out rfl (HO.out.alloc _) ⟨wr.heap.size, 0, none⟩ 1 [45] rfl (new_bytes wr _ [45]) ?c1 ?c2 ?_)
        case c1 => first | omega | (simp; omega)
        case c2 => first | omega | (simp; omega)
        intro v' w3 hown' hgrow
        have hbw3 : Below w0.heap.size w0 w3 := (HB.out.alloc hzb _).grown hgrow (by simp; omega) (by intro q hq; have := HO.out.lt q hq; omega)
        have HO3 := Lib.hid hown'
        have HB3 := Lib.hid hbw3
        clear hown' hgrow hbw3 HO
        go_wp2_with fail
        go_roundw
        case rel => exact ⟨k + 1, _, rfl, by omega, by go_num, by rw [HS.out.2], by rw [HS.out.1]; exact HO3, HB3⟩
        case measure => simp [intOf]; omega
      | false =>
        have hsh : ∀ h, (((⟨#[120, 120, 120, 120, 120, 120, 120, 120, 45, 120, 120, 120, 120, 45, 120, 120, 120, 120, 45, 120, 120, 120, 120, 45, 120, 120, 120, 120, 120, 120, 120, 120, 120, 120, 120, 120]⟩ : ByteArray)[k]'h).toNat : Int) = 120 := fun h => by rw [shape_at k h, if_neg (by rw [hd]; exact Bool.false_ne_true)]
        have hnl := ndU_lt k hlk hd
        have hc : chrU u k = hexU (nibU u (ndU k)) := by unfold chrU; rw [if_neg (by rw [hd]; exact Bool.false_ne_true)]
        have hlen := txtU_len u k
        obtain ⟨n, hn⟩ : ∃ n, ndU k = n := ⟨_, rfl⟩
        obtain ⟨c, hce⟩ : ∃ c : UInt8, hexU (nibU u (ndU k)) = c := ⟨_, rfl⟩
        have HS : Hid (txtU u (k + 1) = txtU u k ++ [c] ∧ ndU (k + 1) = n + 1) := Lib.hid ⟨by rw [hts, hc, hce], by rw [hns, if_neg (by rw [hd]; exact Bool.false_ne_true), hn]⟩
        obtain ⟨out, hout⟩ : ∃ l, txtU u k = l := ⟨_, rfl⟩
        rw [hout] at HO HS hlen
        rw [hn] at hnl hce ⊢
        have hol : out.length ≤ 36 := by omega
        obtain ⟨m, hm⟩ : ∃ m, n / 2 = m := ⟨_, rfl⟩
        have hm15 : m < 16 := by omega
        have hdiv : (n : Int) / 2 = (m : Int) := by omega
        obtain ⟨x, hx⟩ : ∃ x, u m = x := ⟨_, rfl⟩
        have hxb : x < 256 := by rw [← hx]; exact HU.out m
        have hcell : wr.cell? ⟨w.heap.size, m, none⟩ = some (.int .u8 (x : Int)) := by
          rw [Lib.cell_of_heap ((HB.out.block _ (by omega)).trans HBX.out), HX.out m hm15, hx]
        rcases Nat.mod_two_eq_zero_or_one n with hp | hp
        · have hnib : nibU u n = x / 16 := by unfold nibU; rw [if_pos hp, hm, hx]
          have hpar : (n : Int) % 2 = 0 := by omega
          obtain ⟨y, hy⟩ : ∃ y, x / 16 = y := ⟨_, rfl⟩
          have hyb : y < 16 := by omega
          have hyi : (x : Int) / 16 = (y : Int) := by omega
          have hand : bits BinOp.and IntKind.u8 (y : Int) 15 = (y : Int) := by rw [and15 y (by omega), Nat.mod_eq_of_lt hyb]
          have hch : ∀ h, ((⟨#[48, 49, 50, 51, 52, 53, 54, 55, 56, 57, 97, 98, 99, 100, 101, 102]⟩ : ByteArray)[y]'h) = c := fun h => by rw [hex_at y h, ← hce, hnib, hy]
          clear hns hts hc hd hlen hout hn hce hm hx hnib hy hp
          go_wp2_with (at_builtin; refine wpList_push rfl _ _ rfl (w.heap.size + 1) _ out rfl (HO.out.alloc _) ⟨wr.heap.size, 0, none⟩ 1 [c] rfl (new_bytes wr _ [c]) ?c1 ?c2 ?_)
          case c1 => first | omega | (simp; omega)
          case c2 => first | omega | (simp; omega)
          intro v' w3 hown' hgrow
          have hbw3 : Below w0.heap.size w0 w3 := (HB.out.alloc hzb _).grown hgrow (by simp; omega) (by intro q hq; have := HO.out.lt q hq; omega)
          have HO3 := Lib.hid hown'
          have HB3 := Lib.hid hbw3
          clear hown' hgrow hbw3 HO
          go_wp2_with fail
          go_roundw
          case rel => exact ⟨k + 1, _, rfl, by omega, by go_num, by rw [HS.out.2]; go_num, by rw [HS.out.1]; exact HO3, HB3⟩
          case measure => simp [intOf]; omega
        · have hnib : nibU u n = x % 16 := by unfold nibU; rw [if_neg (by omega), hm, hx]
          have hpar : (n : Int) % 2 = 1 := by omega
          obtain ⟨y, hy⟩ : ∃ y, x % 16 = y := ⟨_, rfl⟩
          have hyb : y < 16 := by omega
          have hand : bits BinOp.and IntKind.u8 (x : Int) 15 = (y : Int) := by rw [and15 x hxb, hy]
          have hch : ∀ h, ((⟨#[48, 49, 50, 51, 52, 53, 54, 55, 56, 57, 97, 98, 99, 100, 101, 102]⟩ : ByteArray)[y]'h) = c := fun h => by rw [hex_at y h, ← hce, hnib, hy]
          clear hns hts hc hd hlen hout hn hce hm hx hnib hy hp
          go_wp2_with (at_builtin; refine wpList_push rfl _ _ rfl (w.heap.size + 1) _ out rfl (HO.out.alloc _) ⟨wr.heap.size, 0, none⟩ 1 [c] rfl (new_bytes wr _ [c]) ?c1 ?c2 ?_)
          case c1 => first | omega | (simp; omega)
          case c2 => first | omega | (simp; omega)
          intro v' w3 hown' hgrow
          have hbw3 : Below w0.heap.size w0 w3 := (HB.out.alloc hzb _).grown hgrow (by simp; omega) (by intro q hq; have := HO.out.lt q hq; omega)
          have HO3 := Lib.hid hown'
          have HB3 := Lib.hid hbw3
          clear hown' hgrow hbw3 HO
          go_wp2_with fail
          go_roundw
          case rel => exact ⟨k + 1, _, rfl, by omega, by go_num, by rw [HS.out.2]; go_num, by rw [HS.out.1]; exact HO3, HB3⟩
          case measure => simp [intOf]; omega
    · obtain rfl : k = 36 := by omega
      have HE : Hid (Below w.heap.size w wr) := Lib.hid (HW0.out.trans (HB.out.mono (by omega)))
      obtain ⟨out, hout⟩ : ∃ l, txtU u 36 = l := ⟨_, rfl⟩
      rw [hout] at HO
      have hcv := run_convert_own HO.out
      have HF := Lib.hid hout
      clear hout
      go_wp2_with fail
      go_ret
      exact ⟨by rw [HF.out]; rfl, HE.out⟩
end Go.Proofs.YtjhgiojmlkeccaaGreatDoor
namespace Go.Proofs.YtjhgiojmlkeccaaGreatDoor
open Go.RowKit Go.Shelf
def hexL : List UInt8 := [48, 49, 50, 51, 52, 53, 54, 55, 56, 57, 97, 98, 99, 100, 101, 102]
def smallU (c : Nat) : Nat := if 65 ≤ c ∧ c ≤ 70 then c + 32 else c
/-- What a digit is worth; below 0: it is none. -/
def hvU (c : UInt8) : Int := Lib.indexByte hexL (UInt8.ofNat (smallU c.toNat))
def okU (l : List UInt8) (k : Nat) : Bool := if dashU k then l.getD k 0 == 45 else decide (0 ≤ hvU (l.getD k 0))
def posU (i : Nat) : Nat := i + (if 20 ≤ i then 4 else if 16 ≤ i then 3 else if 12 ≤ i then 2 else if 8 ≤ i then 1 else 0)
theorem posU_nd (k : Nat) (hk : k < 36) (hd : dashU k = false) : posU (ndU k) = k := by
  have : ∀ k : Fin 36, dashU k.1 = false → posU (ndU k.1) = k.1 := by decide +kernel
  exact this ⟨k, hk⟩ hd
def gU (l : List UInt8) (i : Nat) : Nat := (hvU (l.getD (posU i) 0)).toNat
def cellU (g : Nat → Nat) (n j : Nat) : Nat := if 2 * j + 1 < n then (16 * g (2 * j) + g (2 * j + 1)) % 256 else if 2 * j < n then g (2 * j) % 256 else 0
def rowU (g : Nat → Nat) (n : Nat) : Array Value := ((List.range 16).map fun j => Value.int .u8 (cellU g n j : Int)).toArray
def allU (l : List UInt8) : Bool := decide (l.length = 36) && (List.range 36).all (okU l)
theorem rowU_size (g : Nat → Nat) (n : Nat) : (rowU g n).size = 16 := by unfold rowU; simp
theorem rowU_at (g : Nat → Nat) (n j : Nat) (hj : j < 16) : (rowU g n)[j]? = some (.int .u8 (cellU g n j : Int)) := by
  unfold rowU; simp [hj]
theorem cellU_lt (g : Nat → Nat) (n j : Nat) : cellU g n j < 256 := by
  unfold cellU; split
  · omega
  · split <;> omega
theorem rowU_one (g : Nat → Nat) (n : Nat) : (rowU g n).all (·.oneCell') = true := by
  rw [Array.all_eq_true]
  intro i hi
  rw [rowU_size] at hi
  have := rowU_at g n i hi
  rw [Array.getElem?_eq_getElem (by rw [rowU_size]; exact hi)] at this
  rw [Option.some.inj this]
  rfl
theorem rowU_step (g : Nat → Nat) (n : Nat) (hn : n < 32) : (rowU g n).setIfInBounds (n / 2) (.int .u8 (cellU g (n + 1) (n / 2) : Int)) = rowU g (n + 1) := by
  apply Array.ext
  · rw [Array.size_setIfInBounds, rowU_size, rowU_size]
  · intro i h1 h2
    rw [rowU_size] at h2
    have e2 := rowU_at g (n + 1) i h2
    rw [Array.getElem?_eq_getElem (by rw [rowU_size]; exact h2)] at e2
    have e1 := rowU_at g n i h2
    rw [Array.getElem?_eq_getElem (by rw [rowU_size]; exact h2)] at e1
    rw [Option.some.inj e2, Array.getElem_setIfInBounds (by rw [rowU_size]; exact h2)]
    split
    · rename_i h; rw [h]
    · rename_i h
      rw [Option.some.inj e1]
      have : cellU g n i = cellU g (n + 1) i := by
        unfold cellU
        by_cases a : 2 * i + 1 < n
        · rw [if_pos a, if_pos (by omega)]
        · by_cases b : 2 * i < n
          · have : n = 2 * i + 1 := by omega
            omega
          · rw [if_neg a, if_neg b, if_neg (by omega), if_neg (by omega)]
      rw [this]
theorem or_nib (a d : Nat) (ha : a < 16) (hd : d < 16) : bits BinOp.or IntKind.u8 ((a : Int) * 16) (d : Int) = ((16 * a + d : Nat) : Int) := by
  have : ∀ a : Fin 16, ∀ d : Fin 16, bits BinOp.or IntKind.u8 ((a.1 : Int) * 16) (d.1 : Int) = ((16 * a.1 + d.1 : Nat) : Int) := by decide +kernel
  exact this ⟨a, ha⟩ ⟨d, hd⟩
theorem hv_lt (c : UInt8) : hvU c < 16 := by
  have : ∀ c : Fin 256, hvU (UInt8.ofNat c.1) < 16 := by decide +kernel
  have h := this ⟨c.toNat, UInt8.toNat_lt _⟩
  simpa using h
set_option maxRecDepth 100000 in
set_option maxHeartbeats 8000000 in
theorem small_any' (r : Int) (h0 : 0 ≤ r) (h1 : r ≤ 2147483647) (w : World) : Calls Tryz.prog 83 #[.int .i32 r] w fun e w' => e = .returned (.int .i32 (if 65 ≤ r ∧ r ≤ 70 then r + 32 else r)) ∧ w = w' := by
  by_cases a : 65 ≤ r
  · by_cases b : r ≤ 70
    · rw [if_pos ⟨a, b⟩]
      have hs : r + 97 - 65 = r + 32 := by omega
      go_enter Tryz.func83, Tryz.ntmps83
      go_wp2_with fail
      go_ret
      exact ⟨rfl, rfl⟩
    · rw [if_neg (fun h => b h.2)]
      have hb : decide (r ≤ 70) = false := by simpa using b
      go_enter Tryz.func83, Tryz.ntmps83
      go_wp2_with fail
      go_ret
      exact ⟨rfl, rfl⟩
  · rw [if_neg (fun h => a h.1)]
    have hb : decide (65 ≤ r) = false := by simpa using a
    go_enter Tryz.func83, Tryz.ntmps83
    go_wp2_with fail
    go_ret
    exact ⟨rfl, rfl⟩
set_option maxRecDepth 100000 in
set_option maxHeartbeats 8000000 in
theorem hexr_ascii (c : Nat) (hc : c < 128) (w : World) :
    Calls Tryz.prog 82 #[.string ⟨#[48, 49, 50, 51, 52, 53, 54, 55, 56, 57, 97, 98, 99, 100, 101, 102]⟩, .int .i32 (c : Int)] w fun e w' => e = .returned (.int .i64 (Lib.indexByte hexL (UInt8.ofNat c))) ∧ w = w' := by
  have HB : Hid (∀ W, Calls Tryz.prog 117 #[.string ⟨#[48, 49, 50, 51, 52, 53, 54, 55, 56, 57, 97, 98, 99, 100, 101, 102]⟩, .int .u8 (c : Int)] W fun e w' => e = .returned (.int .i64 (Lib.indexByte hexL (UInt8.ofNat c))) ∧ W = w') := Lib.hid fun W => by
    have := Tryz.strings_IndexByte ⟨#[48, 49, 50, 51, 52, 53, 54, 55, 56, 57, 97, 98, 99, 100, 101, 102]⟩ (c : Int) W
    rw [show ((c : Int)).toNat.toUInt8 = UInt8.ofNat c from rfl] at this
    exact this.mono fun e w' ⟨a, b⟩ => ⟨a, b.symm⟩
  have h0 : (0 : Int) ≤ (c : Int) := by omega
  have h1 : (c : Int) < 128 := by omega
  generalize Lib.indexByte hexL (UInt8.ofNat c) = q at *
  go_enter Tryz.func82, Tryz.ntmps82
  go_wp2_with fail
  refine (HB.out _).mono ?_; rintro e w1 ⟨rfl, rfl⟩
  go_wp2_with fail
  go_ret
  exact ⟨rfl, rfl⟩
end Go.Proofs.YtjhgiojmlkeccaaGreatDoor
namespace Go.Proofs.YtjhgiojmlkeccaaGreatDoor
open Go.RowKit Go.Shelf
theorem rowU_0 (g : Nat → Nat) : rowU g 0 = #[.int .u8 0, .int .u8 0, .int .u8 0, .int .u8 0, .int .u8 0, .int .u8 0, .int .u8 0, .int .u8 0, .int .u8 0, .int .u8 0, .int .u8 0, .int .u8 0, .int .u8 0, .int .u8 0, .int .u8 0, .int .u8 0] := by
  unfold rowU cellU; rfl
theorem hv_high (c : UInt8) (h : 128 ≤ c.toNat) : decide (0 ≤ hvU c) = false := by
  have : ∀ c : Fin 256, 128 ≤ c.1 → decide (0 ≤ hvU (UInt8.ofNat c.1)) = false := by decide +kernel
  have h1 := this ⟨c.toNat, UInt8.toNat_lt _⟩ h
  simpa using h1
/-- How the reading stands. -/
def USt (s : ByteArray) (rb ib : Nat) (g : Nat → Nat) (k n : Nat) (w W : World) : Prop := W.heap[rb]? = some (.cells (rowU g n) 89 (0, 0)) ∧ W.heap[ib]? = some (.stringIter s k) ∧ Below rb w W
theorem USt.below {s : ByteArray} {rb ib : Nat} {g : Nat → Nat} {k n : Nat} {w W W' : World} (h : USt s rb ib g k n w W) (hb : Below W.heap.size W W') : USt s rb ib g k n w W' :=
  ⟨(hb.block rb (heap_lt h.1)).trans h.1, (hb.block ib (heap_lt h.2.1)).trans h.2.1, h.2.2.trans (hb.mono (Nat.le_of_lt (heap_lt h.1)))⟩
theorem USt.next {s : ByteArray} {rb ib : Nat} {g : Nat → Nat} {k n : Nat} {w W : World} (h : USt s rb ib g k n w W) (hne : rb ≠ ib) (hle : rb ≤ ib) (j : Nat) : USt s rb ib g j n w (W.iterAt ib s j) :=
  ⟨(Lib.iterAt_other W ib rb s j hne).trans h.1, Lib.iterAt_heap W ib s k j h.2.1, Lib.below_iterAt h.2.2 hle s j⟩
theorem USt.set {s : ByteArray} {rb ib : Nat} {g : Nat → Nat} {k n : Nat} {w W : World} (h : USt s rb ib g k n w W) (hne : rb ≠ ib) (hn : n < 32) : USt s rb ib g k (n + 1) w (W.setCell ⟨rb, n / 2, none⟩ (.int .u8 (cellU g (n + 1) (n / 2) : Int))) :=
  ⟨on_pset h.1 _ (rowU_step g n hn), by rw [Below.heap_setCell _ _ _ _ (Ne.symm hne)]; exact h.2.1, h.2.2.setCell (p := ⟨rb, n / 2, none⟩) (Nat.le_refl rb) _⟩
set_option maxRecDepth 100000 in
set_option maxHeartbeats 8000000 in
theorem uparse_36 (l : List UInt8) (hl : l.length = 36) (v : Value) (w : World)
    (hno : allU l = false → Ending.returned (.tuple #[.agg #[.int .u8 0, .int .u8 0, .int .u8 0, .int .u8 0, .int .u8 0, .int .u8 0, .int .u8 0, .int .u8 0, .int .u8 0, .int .u8 0, .int .u8 0, .int .u8 0, .int .u8 0, .int .u8 0, .int .u8 0, .int .u8 0], .int .i64 130]) = .returned v) (hyes : allU l = true → Ending.returned (.tuple #[.agg (rowU (gU l) 32), .int .i64 0]) = .returned v) :
    Calls Tryz.prog 53 #[.string ⟨l.toArray⟩] w fun e w' => e = .returned v ∧ Below w.heap.size w w' := by
  have HNO0 := Lib.hid hno
  have HYES0 := Lib.hid hyes
  clear hno hyes
  obtain ⟨s, hs⟩ : ∃ s : ByteArray, (⟨l.toArray⟩ : ByteArray) = s := ⟨_, rfl⟩
  have hsz : s.size = 36 := by rw [← hs]; show l.toArray.size = 36; simp [hl]
  have hat : ∀ k (h : k < s.size), s[k]'h = l.getD k 0 := by
    subst hs
    intro k h
    have h' : k < l.length := by rw [hl]; rw [hsz] at h; exact h
    rw [List.getD_eq_getElem?_getD, List.getElem?_eq_getElem h']
    rfl
  have HAT := Lib.hid hat
  have HLL := Lib.hid hl
  obtain ⟨g, hg⟩ : ∃ g, gU l = g := ⟨_, rfl⟩
  rw [hg] at HYES0
  have HG := Lib.hid hg
  rw [hs]
  have HSZ := Lib.hid hsz
  have hsl : (s.size : Int) = 36 := by omega
  obtain ⟨w0, hw0⟩ : ∃ w0 : World, w0 = (w.alloc (.cells #[.int .u8 0, .int .u8 0, .int .u8 0, .int .u8 0, .int .u8 0, .int .u8 0, .int .u8 0, .int .u8 0, .int .u8 0, .int .u8 0, .int .u8 0, .int .u8 0, .int .u8 0, .int .u8 0, .int .u8 0, .int .u8 0] 89 (0, 0))).iter s 0 := ⟨_, rfl⟩
  have HU0 : Hid (USt s (w.heap.size) (w.heap.size + 1) g 0 0 w w0) := Lib.hid ⟨by rw [hw0, rowU_0]; unfold World.iter; exact heap_old (heap_new _ _ _ rfl), by rw [hw0]; unfold World.iter; exact heap_new _ _ _ (by simp), by rw [hw0]; unfold World.iter; exact ((Below.refl _ _).alloc (Nat.le_refl _) _).alloc (by simp) _⟩
  clear hs hsz hat hl hg
  go_enter Tryz.func53, Tryz.ntmps53
  go_wp2_with fail
  try rw [← hw0]
  clear hw0 hsl
  have hg16 : ∀ j, g j < 16 := fun j => by rw [← HG.out]; unfold gU; have := hv_lt (l.getD (posU j) 0); omega
  have HG16 := Lib.hid hg16
  clear hg16
  go_loopg [4] 36 (fun gk n wr => ∃ k : Nat, k + gk = 36 ∧ n = .int .i64 (ndU k : Nat) ∧ Hid (USt s (w.heap.size) (w.heap.size + 1) g k (ndU k) w wr) ∧ Hid (∀ j, j < k → okU l j = true))
  case atStart => exact ⟨0, by omega, rfl, HU0, Lib.hid (fun j hj => absurd hj (Nat.not_lt_zero j))⟩
  case round =>
    rename World => wr
    obtain ⟨k, hk, rfl, HU, HOK⟩ := hrel
    by_cases hlk : k < 36
    · have hki : k < s.size := by rw [HSZ.out]; exact hlk
      have hnx := fun ty => Lib.run_next_any_at (P := Tryz.prog) wr (w.heap.size + 1) s k ty HU.out.2.1 hki
      obtain ⟨c, hc⟩ : ∃ c, l.getD k 0 = c := ⟨_, rfl⟩
      have hsc : s[k]'hki = c := by rw [HAT.out k hki, hc]
      have hok : okU l k = if dashU k then c == 45 else decide (0 ≤ hvU c) := by unfold okU; rw [hc]
      have HBADL : Hid (okU l k = false → allU l = false) := Lib.hid (fun h => by
        unfold allU
        rw [Bool.and_eq_false_iff]
        refine Or.inr (Bool.eq_false_iff.2 fun ha => ?_)
        have := List.all_eq_true.1 ha k (List.mem_range.2 hlk)
        rw [h] at this; cases this)
      have hns := ndU_succ k hlk
      have HOK2 : Hid (okU l k = true → ∀ j, j < k + 1 → okU l j = true) := Lib.hid (fun h j hj => by
        rcases Nat.lt_or_ge j k with h' | h'
        · exact HOK.out j h'
        · rw [show j = k by omega]; exact h)
      have hnle : ndU k ≤ 36 := by unfold ndU; omega
      by_cases ha : c.toNat < 128
      · rw [decode_ascii s k hki (by rw [hsc]; exact ha)] at hnx
        simp only [hsc] at hnx
        have HU1 : Hid (USt s (w.heap.size) (w.heap.size + 1) g (k + 1) (ndU k) w (wr.iterAt (w.heap.size + 1) s (k + 1))) := Lib.hid (HU.out.next (by omega) (by omega) (k + 1))
        obtain ⟨sc, hscv⟩ : ∃ sc, smallU c.toNat = sc := ⟨_, rfl⟩
        have hsc128 : sc < 128 := by rw [← hscv]; unfold smallU; split <;> omega
        have HSM : Hid (∀ W, Calls Tryz.prog 83 #[.int .i32 (c.toNat : Int)] W fun e w' => e = .returned (.int .i32 (sc : Int)) ∧ W = w') := Lib.hid fun W => by
          have := small_any' (c.toNat : Int) (by omega) (by omega) W
          rw [show (if 65 ≤ (c.toNat : Int) ∧ (c.toNat : Int) ≤ 70 then (c.toNat : Int) + 32 else (c.toNat : Int)) = ((sc : Nat) : Int) by rw [← hscv]; unfold smallU; split <;> split <;> omega] at this
          exact this
        obtain ⟨q, hq⟩ : ∃ q, hvU c = q := ⟨_, rfl⟩
        have hq16 : q < 16 := by rw [← hq]; exact hv_lt c
        have HIR : Hid (∀ W, Calls Tryz.prog 82 #[.string ⟨#[48, 49, 50, 51, 52, 53, 54, 55, 56, 57, 97, 98, 99, 100, 101, 102]⟩, .int .i32 (sc : Int)] W fun e w' => e = .returned (.int .i64 q) ∧ W = w') := Lib.hid fun W => by
          have := hexr_ascii sc hsc128 W
          rw [show Lib.indexByte hexL (UInt8.ofNat sc) = q by rw [← hq]; unfold hvU; rw [hscv]] at this
          exact this
        obtain ⟨n, hn⟩ : ∃ n, ndU k = n := ⟨_, rfl⟩
        have hgn : dashU k = false → g n = q.toNat := fun h => by rw [← HG.out, ← hn]; unfold gU; rw [posU_nd k hlk h, hc, hq]
        have hpos : dashU k = false → posU n = k := fun h => by rw [← hn]; exact posU_nd k hlk h
        have hnl : dashU k = false → n ≤ 31 := fun h => by rw [← hn]; exact ndU_lt k hlk h
        rw [hn] at HU1 hns hnle ⊢
        obtain ⟨ci, hci⟩ : ∃ ci : Nat, c.toNat = ci := ⟨_, rfl⟩
        have h45 : (c == 45) = decide (ci = 45) := by
          rw [← hci, Bool.eq_iff_iff]; simp [← UInt8.toNat_inj]
        rw [hci] at hnx HSM ha
        rw [hq] at hok
        rw [h45] at hok
        clear hscv hq hsc hn hci h45 HU
        cases hd : dashU k with
        | true =>
          rw [hd, if_pos rfl] at hok hns
          have hsh : ∀ h, (((⟨#[120, 120, 120, 120, 120, 120, 120, 120, 45, 120, 120, 120, 120, 45, 120, 120, 120, 120, 45, 120, 120, 120, 120, 45, 120, 120, 120, 120, 120, 120, 120, 120, 120, 120, 120, 120]⟩ : ByteArray)[k]'h).toNat : Int) = 45 := fun h => by rw [shape_at k h, if_pos hd]
          clear hpos hnl hgn hd
          by_cases h5 : ci = 45
          · as_aux_lemma =>
              rw [decide_eq_true h5] at hok
              have HOK3 := Lib.hid (HOK2.out hok)
              have HNS := Lib.hid hns
              subst h5
              obtain ⟨gg, rfl⟩ : ∃ gg, gk = gg + 1 := ⟨gk - 1, by omega⟩
              clear hok hns hc
              go_wp2_with fail
              go_roundg gg
              case measure => omega
              case rel => exact ⟨k + 1, by omega, by rw [HNS.out], by rw [HNS.out]; exact HU1, HOK3⟩
          · as_aux_lemma =>
              rw [decide_eq_false h5] at hok
              have HNO := Lib.hid (HNO0.out (HBADL.out hok))
              have h5' : ((ci : Int) == 45) = false := by simp; omega
              clear hok hns hc h5
              go_wp2_with fail
              refine (HSM.out _).mono ?_; rintro e w5 ⟨rfl, rfl⟩
              go_wp2_with fail
              refine (HIR.out _).mono ?_; rintro e w5 ⟨rfl, rfl⟩
              have HU := HU1
              have HRB : Hid ((wr.iterAt (w.heap.size + 1) s (k + 1)).heap[w.heap.size]? = some (.cells (rowU g n) 89 (0, 0))) := Lib.hid HU.out.1
              have HBB : Hid (Below w.heap.size w (wr.iterAt (w.heap.size + 1) s (k + 1))) := Lib.hid HU.out.2.2
              go_wp2_with (refine wpList_store_row rfl 89 _ _ rfl w.heap.size #[.int .u8 0, .int .u8 0, .int .u8 0, .int .u8 0, .int .u8 0, .int .u8 0, .int .u8 0, .int .u8 0, .int .u8 0, .int .u8 0, .int .u8 0, .int .u8 0, .int .u8 0, .int .u8 0, .int .u8 0, .int .u8 0] rfl rfl 89 (rowU g n) HRB.out (by kernel_rfl) (rowU_size _ _) (by kernel_rfl) ?_)
              have HR := setRow_heap _ _ _ #[.int .u8 0, .int .u8 0, .int .u8 0, .int .u8 0, .int .u8 0, .int .u8 0, .int .u8 0, .int .u8 0, .int .u8 0, .int .u8 0, .int .u8 0, .int .u8 0, .int .u8 0, .int .u8 0, .int .u8 0, .int .u8 0] _ _ HRB.out
              obtain ⟨wf, hwf⟩ : ∃ wf : World, wf = World.setRow (wr.iterAt (w.heap.size + 1) s (k + 1)) w.heap.size #[.int .u8 0, .int .u8 0, .int .u8 0, .int .u8 0, .int .u8 0, .int .u8 0, .int .u8 0, .int .u8 0, .int .u8 0, .int .u8 0, .int .u8 0, .int .u8 0, .int .u8 0, .int .u8 0, .int .u8 0, .int .u8 0] := ⟨_, rfl⟩
              rw [← hwf] at HR
              rw [← hwf]
              have r0 : wf.cell? ⟨w.heap.size, 0, none⟩ = some (.int .u8 0) := (Lib.cell_of_heap HR 0).trans rfl
              have r1 : wf.cell? ⟨w.heap.size, 1, none⟩ = some (.int .u8 0) := (Lib.cell_of_heap HR 1).trans rfl
              have r2 : wf.cell? ⟨w.heap.size, 2, none⟩ = some (.int .u8 0) := (Lib.cell_of_heap HR 2).trans rfl
              have r3 : wf.cell? ⟨w.heap.size, 3, none⟩ = some (.int .u8 0) := (Lib.cell_of_heap HR 3).trans rfl
              have r4 : wf.cell? ⟨w.heap.size, 4, none⟩ = some (.int .u8 0) := (Lib.cell_of_heap HR 4).trans rfl
              have r5 : wf.cell? ⟨w.heap.size, 5, none⟩ = some (.int .u8 0) := (Lib.cell_of_heap HR 5).trans rfl
              have r6 : wf.cell? ⟨w.heap.size, 6, none⟩ = some (.int .u8 0) := (Lib.cell_of_heap HR 6).trans rfl
              have r7 : wf.cell? ⟨w.heap.size, 7, none⟩ = some (.int .u8 0) := (Lib.cell_of_heap HR 7).trans rfl
              have r8 : wf.cell? ⟨w.heap.size, 8, none⟩ = some (.int .u8 0) := (Lib.cell_of_heap HR 8).trans rfl
              have r9 : wf.cell? ⟨w.heap.size, 9, none⟩ = some (.int .u8 0) := (Lib.cell_of_heap HR 9).trans rfl
              have r10 : wf.cell? ⟨w.heap.size, 10, none⟩ = some (.int .u8 0) := (Lib.cell_of_heap HR 10).trans rfl
              have r11 : wf.cell? ⟨w.heap.size, 11, none⟩ = some (.int .u8 0) := (Lib.cell_of_heap HR 11).trans rfl
              have r12 : wf.cell? ⟨w.heap.size, 12, none⟩ = some (.int .u8 0) := (Lib.cell_of_heap HR 12).trans rfl
              have r13 : wf.cell? ⟨w.heap.size, 13, none⟩ = some (.int .u8 0) := (Lib.cell_of_heap HR 13).trans rfl
              have r14 : wf.cell? ⟨w.heap.size, 14, none⟩ = some (.int .u8 0) := (Lib.cell_of_heap HR 14).trans rfl
              have r15 : wf.cell? ⟨w.heap.size, 15, none⟩ = some (.int .u8 0) := (Lib.cell_of_heap HR 15).trans rfl
              refine bodyPost_ret (v := .tuple #[.agg #[.int .u8 0, .int .u8 0, .int .u8 0, .int .u8 0, .int .u8 0, .int .u8 0, .int .u8 0, .int .u8 0, .int .u8 0, .int .u8 0, .int .u8 0, .int .u8 0, .int .u8 0, .int .u8 0, .int .u8 0, .int .u8 0], .int .i64 130]) (by simp [results, Tryz.results53, go_sem, r0, r1, r2, r3, r4, r5, r6, r7, r8, r9, r10, r11, r12, r13, r14, r15]; try rfl) rfl ?_
              rw [hwf]
              exact ⟨HNO.out, below_setRow HBB.out (Nat.le_refl _) _⟩
        | false =>
          rw [hd, if_neg Bool.false_ne_true] at hok hns
          have hsh : ∀ h, (((⟨#[120, 120, 120, 120, 120, 120, 120, 120, 45, 120, 120, 120, 120, 45, 120, 120, 120, 120, 45, 120, 120, 120, 120, 45, 120, 120, 120, 120, 120, 120, 120, 120, 120, 120, 120, 120]⟩ : ByteArray)[k]'h).toNat : Int) = 120 := fun h => by rw [shape_at k h, if_neg (by rw [hd]; exact Bool.false_ne_true)]
          have hp := hpos hd
          have hn31 := hnl hd
          have hgd := hgn hd
          clear hpos hnl hgn hd
          by_cases hq0 : 0 ≤ q
          · as_aux_lemma =>
              rw [decide_eq_true hq0] at hok
              have HOK3 := Lib.hid (HOK2.out hok)
              have HNS := Lib.hid hns
              obtain ⟨d, rfl⟩ : ∃ d : Nat, q = d := ⟨q.toNat, by omega⟩
              have hd16 : d < 16 := by omega
              have hgd' : g n = d := by rw [hgd]; rfl
              obtain ⟨m, hm⟩ : ∃ m, n / 2 = m := ⟨_, rfl⟩
              have hm15 : m < 16 := by omega
              have hdiv : (n : Int) / 2 = (m : Int) := by omega
              obtain ⟨x, hx⟩ : ∃ x, cellU g n m = x := ⟨_, rfl⟩
              obtain ⟨y, hy⟩ : ∃ y, 16 * x + d = y := ⟨_, rfl⟩
              have hxy : x < 16 ∧ cellU g (n + 1) m = y := by
                rcases Nat.mod_two_eq_zero_or_one n with hp2 | hp2
                · have e : n = 2 * m := by omega
                  have h1 : cellU g n m = 0 := by unfold cellU; rw [if_neg (by omega), if_neg (by omega)]
                  have h2 : cellU g (n + 1) m = g (2 * m) % 256 := by unfold cellU; rw [if_neg (by omega), if_pos (by omega)]
                  rw [← e, hgd'] at h2
                  omega
                · have e : n = 2 * m + 1 := by omega
                  have h1 : cellU g n m = g (2 * m) % 256 := by unfold cellU; rw [if_neg (by omega), if_pos (by omega)]
                  have h2 : cellU g (n + 1) m = (16 * g (2 * m) + g (2 * m + 1)) % 256 := by unfold cellU; rw [if_pos (by omega)]
                  have h3 := HG16.out (2 * m)
                  rw [← e, hgd'] at h2
                  omega
              obtain ⟨hx16, hcy⟩ := hxy
              have hcell : (wr.iterAt (w.heap.size + 1) s (k + 1)).cell? ⟨w.heap.size, m, none⟩ = some (.int .u8 (x : Int)) := by
                rw [Lib.cell_of_heap HU1.out.1, rowU_at _ _ _ hm15, hx]
              have hfro : (wr.iterAt (w.heap.size + 1) s (k + 1)).frozen? ⟨w.heap.size, m, none⟩ = false := Lib.frozen_of_heap HU1.out.1 m
              have hwx : IntKind.u8.wrap ((x : Int) * 16) = (x : Int) * 16 := by rw [IntKind.wrap_u8]; omega
              have hor : bits BinOp.or IntKind.u8 ((x : Int) * 16) (d : Int) = (y : Int) := by rw [or_nib x d hx16 hd16, hy]
              have HU2 : Hid (USt s (w.heap.size) (w.heap.size + 1) g (k + 1) (n + 1) w ((wr.iterAt (w.heap.size + 1) s (k + 1)).setCell ⟨w.heap.size, m, none⟩ (.int .u8 (y : Int)))) := Lib.hid (by
                have := HU1.out.set (by omega) (show n < 32 by omega)
                rw [hm, hcy] at this
                exact this)
              have hq1 : decide ((d : Int) < 0) = false := by simp
              obtain ⟨gg, rfl⟩ : ∃ gg, gk = gg + 1 := ⟨gk - 1, by omega⟩
              clear hok hns hc hp hq0 hgd hgd' hx hy hcy hm
              go_wp2_with fail
              refine (HSM.out _).mono ?_; rintro e w5 ⟨rfl, rfl⟩
              go_wp2_with fail
              refine (HIR.out _).mono ?_; rintro e w5 ⟨rfl, rfl⟩
              go_wp2_with fail
              go_roundg gg
              case measure => omega
              case rel => exact ⟨k + 1, by omega, by rw [HNS.out]; go_num, by rw [HNS.out]; exact HU2, HOK3⟩
          · as_aux_lemma =>
              rw [decide_eq_false hq0] at hok
              have HNO := Lib.hid (HNO0.out (HBADL.out hok))
              have hq1 : decide (q < 0) = true := by simp; omega
              clear hok hns hc hp hq0 hgd
              go_wp2_with fail
              refine (HSM.out _).mono ?_; rintro e w5 ⟨rfl, rfl⟩
              go_wp2_with fail
              refine (HIR.out _).mono ?_; rintro e w5 ⟨rfl, rfl⟩
              have HU := HU1
              have HRB : Hid ((wr.iterAt (w.heap.size + 1) s (k + 1)).heap[w.heap.size]? = some (.cells (rowU g n) 89 (0, 0))) := Lib.hid HU.out.1
              have HBB : Hid (Below w.heap.size w (wr.iterAt (w.heap.size + 1) s (k + 1))) := Lib.hid HU.out.2.2
              go_wp2_with (refine wpList_store_row rfl 89 _ _ rfl w.heap.size #[.int .u8 0, .int .u8 0, .int .u8 0, .int .u8 0, .int .u8 0, .int .u8 0, .int .u8 0, .int .u8 0, .int .u8 0, .int .u8 0, .int .u8 0, .int .u8 0, .int .u8 0, .int .u8 0, .int .u8 0, .int .u8 0] rfl rfl 89 (rowU g n) HRB.out (by kernel_rfl) (rowU_size _ _) (by kernel_rfl) ?_)
              have HR := setRow_heap _ _ _ #[.int .u8 0, .int .u8 0, .int .u8 0, .int .u8 0, .int .u8 0, .int .u8 0, .int .u8 0, .int .u8 0, .int .u8 0, .int .u8 0, .int .u8 0, .int .u8 0, .int .u8 0, .int .u8 0, .int .u8 0, .int .u8 0] _ _ HRB.out
              obtain ⟨wf, hwf⟩ : ∃ wf : World, wf = World.setRow (wr.iterAt (w.heap.size + 1) s (k + 1)) w.heap.size #[.int .u8 0, .int .u8 0, .int .u8 0, .int .u8 0, .int .u8 0, .int .u8 0, .int .u8 0, .int .u8 0, .int .u8 0, .int .u8 0, .int .u8 0, .int .u8 0, .int .u8 0, .int .u8 0, .int .u8 0, .int .u8 0] := ⟨_, rfl⟩
              rw [← hwf] at HR
              rw [← hwf]
              have r0 : wf.cell? ⟨w.heap.size, 0, none⟩ = some (.int .u8 0) := (Lib.cell_of_heap HR 0).trans rfl
              have r1 : wf.cell? ⟨w.heap.size, 1, none⟩ = some (.int .u8 0) := (Lib.cell_of_heap HR 1).trans rfl
              have r2 : wf.cell? ⟨w.heap.size, 2, none⟩ = some (.int .u8 0) := (Lib.cell_of_heap HR 2).trans rfl
              have r3 : wf.cell? ⟨w.heap.size, 3, none⟩ = some (.int .u8 0) := (Lib.cell_of_heap HR 3).trans rfl
              have r4 : wf.cell? ⟨w.heap.size, 4, none⟩ = some (.int .u8 0) := (Lib.cell_of_heap HR 4).trans rfl
              have r5 : wf.cell? ⟨w.heap.size, 5, none⟩ = some (.int .u8 0) := (Lib.cell_of_heap HR 5).trans rfl
              have r6 : wf.cell? ⟨w.heap.size, 6, none⟩ = some (.int .u8 0) := (Lib.cell_of_heap HR 6).trans rfl
              have r7 : wf.cell? ⟨w.heap.size, 7, none⟩ = some (.int .u8 0) := (Lib.cell_of_heap HR 7).trans rfl
              have r8 : wf.cell? ⟨w.heap.size, 8, none⟩ = some (.int .u8 0) := (Lib.cell_of_heap HR 8).trans rfl
              have r9 : wf.cell? ⟨w.heap.size, 9, none⟩ = some (.int .u8 0) := (Lib.cell_of_heap HR 9).trans rfl
              have r10 : wf.cell? ⟨w.heap.size, 10, none⟩ = some (.int .u8 0) := (Lib.cell_of_heap HR 10).trans rfl
              have r11 : wf.cell? ⟨w.heap.size, 11, none⟩ = some (.int .u8 0) := (Lib.cell_of_heap HR 11).trans rfl
              have r12 : wf.cell? ⟨w.heap.size, 12, none⟩ = some (.int .u8 0) := (Lib.cell_of_heap HR 12).trans rfl
              have r13 : wf.cell? ⟨w.heap.size, 13, none⟩ = some (.int .u8 0) := (Lib.cell_of_heap HR 13).trans rfl
              have r14 : wf.cell? ⟨w.heap.size, 14, none⟩ = some (.int .u8 0) := (Lib.cell_of_heap HR 14).trans rfl
              have r15 : wf.cell? ⟨w.heap.size, 15, none⟩ = some (.int .u8 0) := (Lib.cell_of_heap HR 15).trans rfl
              refine bodyPost_ret (v := .tuple #[.agg #[.int .u8 0, .int .u8 0, .int .u8 0, .int .u8 0, .int .u8 0, .int .u8 0, .int .u8 0, .int .u8 0, .int .u8 0, .int .u8 0, .int .u8 0, .int .u8 0, .int .u8 0, .int .u8 0, .int .u8 0, .int .u8 0], .int .i64 130]) (by simp [results, Tryz.results53, go_sem, r0, r1, r2, r3, r4, r5, r6, r7, r8, r9, r10, r11, r12, r13, r14, r15]; try rfl) rfl ?_
              rw [hwf]
              exact ⟨HNO.out, below_setRow HBB.out (Nat.le_refl _) _⟩
      · as_aux_lemma =>
          have hhi := decode_high s k hki (by rw [hsc]; omega)
          have hle := decode_le s k
          have HU1 : Hid (USt s (w.heap.size) (w.heap.size + 1) g (k + (Utf8.decode s k).2) (ndU k) w (wr.iterAt (w.heap.size + 1) s (k + (Utf8.decode s k).2))) := Lib.hid (HU.out.next (by omega) (by omega) _)
          obtain ⟨hh1, hh2⟩ := hhi
          generalize (Utf8.decode s k).1 = r at *
          generalize (Utf8.decode s k).2 = p at *
          have hv := hv_high c (by omega)
          have hok2 : okU l k = false := by
            rw [hok]
            cases dashU k with
            | true =>
              rw [if_pos rfl]
              refine Bool.eq_false_iff.2 fun h => ?_
              have : c = 45 := by simpa using h
              rw [this] at ha; exact ha (by decide)
            | false => rw [if_neg Bool.false_ne_true]; exact hv
          have HNO := Lib.hid (HNO0.out (HBADL.out hok2))
          have HSM : Hid (∀ W, Calls Tryz.prog 83 #[.int .i32 (r : Int)] W fun e w' => e = .returned (.int .i32 (r : Int)) ∧ W = w') := Lib.hid fun W => by
            have := small_any' (r : Int) (by omega) (by omega) W
            rw [if_neg (by omega)] at this
            exact this
          have HIR := Lib.hid (fun W => hexr_none (r : Int) (by omega) (by omega) W)
          have h45 : ((r : Int) == 45) = false := by simp; omega
          obtain ⟨n, hn⟩ : ∃ n, ndU k = n := ⟨_, rfl⟩
          rw [hn] at HU1 ⊢
          clear hok hok2 hns hc hsc hv HU hn
          obtain ⟨dk, hdk⟩ : ∃ b, dashU k = b := ⟨_, rfl⟩
          have hsh : ∀ h, (((⟨#[120, 120, 120, 120, 120, 120, 120, 120, 45, 120, 120, 120, 120, 45, 120, 120, 120, 120, 45, 120, 120, 120, 120, 45, 120, 120, 120, 120, 120, 120, 120, 120, 120, 120, 120, 120]⟩ : ByteArray)[k]'h).toNat : Int) = if dk then 45 else 120 := fun h => by rw [shape_at k h, hdk]
          clear hdk
          cases dk with
          | true =>
            rw [if_pos rfl] at hsh
            go_wp2_with fail
            refine (HSM.out _).mono ?_; rintro e w4 ⟨rfl, rfl⟩
            go_wp2_with fail
            refine (HIR.out _).mono ?_; rintro e w5 ⟨rfl, hb⟩
            have HU := Lib.hid (HU1.out.below hb)
            clear hb
            have HRB : Hid (w5.heap[w.heap.size]? = some (.cells (rowU g n) 89 (0, 0))) := Lib.hid HU.out.1
            have HBB : Hid (Below w.heap.size w w5) := Lib.hid HU.out.2.2
            go_wp2_with (refine wpList_store_row rfl 89 _ _ rfl w.heap.size #[.int .u8 0, .int .u8 0, .int .u8 0, .int .u8 0, .int .u8 0, .int .u8 0, .int .u8 0, .int .u8 0, .int .u8 0, .int .u8 0, .int .u8 0, .int .u8 0, .int .u8 0, .int .u8 0, .int .u8 0, .int .u8 0] rfl rfl 89 (rowU g n) HRB.out (by kernel_rfl) (rowU_size _ _) (by kernel_rfl) ?_)
            have HR := setRow_heap _ _ _ #[.int .u8 0, .int .u8 0, .int .u8 0, .int .u8 0, .int .u8 0, .int .u8 0, .int .u8 0, .int .u8 0, .int .u8 0, .int .u8 0, .int .u8 0, .int .u8 0, .int .u8 0, .int .u8 0, .int .u8 0, .int .u8 0] _ _ HRB.out
            obtain ⟨wf, hwf⟩ : ∃ wf : World, wf = World.setRow w5 w.heap.size #[.int .u8 0, .int .u8 0, .int .u8 0, .int .u8 0, .int .u8 0, .int .u8 0, .int .u8 0, .int .u8 0, .int .u8 0, .int .u8 0, .int .u8 0, .int .u8 0, .int .u8 0, .int .u8 0, .int .u8 0, .int .u8 0] := ⟨_, rfl⟩
            rw [← hwf] at HR
            rw [← hwf]
            have r0 : wf.cell? ⟨w.heap.size, 0, none⟩ = some (.int .u8 0) := (Lib.cell_of_heap HR 0).trans rfl
            have r1 : wf.cell? ⟨w.heap.size, 1, none⟩ = some (.int .u8 0) := (Lib.cell_of_heap HR 1).trans rfl
            have r2 : wf.cell? ⟨w.heap.size, 2, none⟩ = some (.int .u8 0) := (Lib.cell_of_heap HR 2).trans rfl
            have r3 : wf.cell? ⟨w.heap.size, 3, none⟩ = some (.int .u8 0) := (Lib.cell_of_heap HR 3).trans rfl
            have r4 : wf.cell? ⟨w.heap.size, 4, none⟩ = some (.int .u8 0) := (Lib.cell_of_heap HR 4).trans rfl
            have r5 : wf.cell? ⟨w.heap.size, 5, none⟩ = some (.int .u8 0) := (Lib.cell_of_heap HR 5).trans rfl
            have r6 : wf.cell? ⟨w.heap.size, 6, none⟩ = some (.int .u8 0) := (Lib.cell_of_heap HR 6).trans rfl
            have r7 : wf.cell? ⟨w.heap.size, 7, none⟩ = some (.int .u8 0) := (Lib.cell_of_heap HR 7).trans rfl
            have r8 : wf.cell? ⟨w.heap.size, 8, none⟩ = some (.int .u8 0) := (Lib.cell_of_heap HR 8).trans rfl
            have r9 : wf.cell? ⟨w.heap.size, 9, none⟩ = some (.int .u8 0) := (Lib.cell_of_heap HR 9).trans rfl
            have r10 : wf.cell? ⟨w.heap.size, 10, none⟩ = some (.int .u8 0) := (Lib.cell_of_heap HR 10).trans rfl
            have r11 : wf.cell? ⟨w.heap.size, 11, none⟩ = some (.int .u8 0) := (Lib.cell_of_heap HR 11).trans rfl
            have r12 : wf.cell? ⟨w.heap.size, 12, none⟩ = some (.int .u8 0) := (Lib.cell_of_heap HR 12).trans rfl
            have r13 : wf.cell? ⟨w.heap.size, 13, none⟩ = some (.int .u8 0) := (Lib.cell_of_heap HR 13).trans rfl
            have r14 : wf.cell? ⟨w.heap.size, 14, none⟩ = some (.int .u8 0) := (Lib.cell_of_heap HR 14).trans rfl
            have r15 : wf.cell? ⟨w.heap.size, 15, none⟩ = some (.int .u8 0) := (Lib.cell_of_heap HR 15).trans rfl
            refine bodyPost_ret (v := .tuple #[.agg #[.int .u8 0, .int .u8 0, .int .u8 0, .int .u8 0, .int .u8 0, .int .u8 0, .int .u8 0, .int .u8 0, .int .u8 0, .int .u8 0, .int .u8 0, .int .u8 0, .int .u8 0, .int .u8 0, .int .u8 0, .int .u8 0], .int .i64 130]) (by simp [results, Tryz.results53, go_sem, r0, r1, r2, r3, r4, r5, r6, r7, r8, r9, r10, r11, r12, r13, r14, r15]; try rfl) rfl ?_
            rw [hwf]
            exact ⟨HNO.out, below_setRow HBB.out (Nat.le_refl _) _⟩
          | false =>
            rw [if_neg Bool.false_ne_true] at hsh
            go_wp2_with fail
            refine (HSM.out _).mono ?_; rintro e w4 ⟨rfl, rfl⟩
            go_wp2_with fail
            refine (HIR.out _).mono ?_; rintro e w5 ⟨rfl, hb⟩
            have HU := Lib.hid (HU1.out.below hb)
            clear hb
            have HRB : Hid (w5.heap[w.heap.size]? = some (.cells (rowU g n) 89 (0, 0))) := Lib.hid HU.out.1
            have HBB : Hid (Below w.heap.size w w5) := Lib.hid HU.out.2.2
            go_wp2_with (refine wpList_store_row rfl 89 _ _ rfl w.heap.size #[.int .u8 0, .int .u8 0, .int .u8 0, .int .u8 0, .int .u8 0, .int .u8 0, .int .u8 0, .int .u8 0, .int .u8 0, .int .u8 0, .int .u8 0, .int .u8 0, .int .u8 0, .int .u8 0, .int .u8 0, .int .u8 0] rfl rfl 89 (rowU g n) HRB.out (by kernel_rfl) (rowU_size _ _) (by kernel_rfl) ?_)
            have HR := setRow_heap _ _ _ #[.int .u8 0, .int .u8 0, .int .u8 0, .int .u8 0, .int .u8 0, .int .u8 0, .int .u8 0, .int .u8 0, .int .u8 0, .int .u8 0, .int .u8 0, .int .u8 0, .int .u8 0, .int .u8 0, .int .u8 0, .int .u8 0] _ _ HRB.out
            obtain ⟨wf, hwf⟩ : ∃ wf : World, wf = World.setRow w5 w.heap.size #[.int .u8 0, .int .u8 0, .int .u8 0, .int .u8 0, .int .u8 0, .int .u8 0, .int .u8 0, .int .u8 0, .int .u8 0, .int .u8 0, .int .u8 0, .int .u8 0, .int .u8 0, .int .u8 0, .int .u8 0, .int .u8 0] := ⟨_, rfl⟩
            rw [← hwf] at HR
            rw [← hwf]
            have r0 : wf.cell? ⟨w.heap.size, 0, none⟩ = some (.int .u8 0) := (Lib.cell_of_heap HR 0).trans rfl
            have r1 : wf.cell? ⟨w.heap.size, 1, none⟩ = some (.int .u8 0) := (Lib.cell_of_heap HR 1).trans rfl
            have r2 : wf.cell? ⟨w.heap.size, 2, none⟩ = some (.int .u8 0) := (Lib.cell_of_heap HR 2).trans rfl
            have r3 : wf.cell? ⟨w.heap.size, 3, none⟩ = some (.int .u8 0) := (Lib.cell_of_heap HR 3).trans rfl
            have r4 : wf.cell? ⟨w.heap.size, 4, none⟩ = some (.int .u8 0) := (Lib.cell_of_heap HR 4).trans rfl
            have r5 : wf.cell? ⟨w.heap.size, 5, none⟩ = some (.int .u8 0) := (Lib.cell_of_heap HR 5).trans rfl
            have r6 : wf.cell? ⟨w.heap.size, 6, none⟩ = some (.int .u8 0) := (Lib.cell_of_heap HR 6).trans rfl
            have r7 : wf.cell? ⟨w.heap.size, 7, none⟩ = some (.int .u8 0) := (Lib.cell_of_heap HR 7).trans rfl
            have r8 : wf.cell? ⟨w.heap.size, 8, none⟩ = some (.int .u8 0) := (Lib.cell_of_heap HR 8).trans rfl
            have r9 : wf.cell? ⟨w.heap.size, 9, none⟩ = some (.int .u8 0) := (Lib.cell_of_heap HR 9).trans rfl
            have r10 : wf.cell? ⟨w.heap.size, 10, none⟩ = some (.int .u8 0) := (Lib.cell_of_heap HR 10).trans rfl
            have r11 : wf.cell? ⟨w.heap.size, 11, none⟩ = some (.int .u8 0) := (Lib.cell_of_heap HR 11).trans rfl
            have r12 : wf.cell? ⟨w.heap.size, 12, none⟩ = some (.int .u8 0) := (Lib.cell_of_heap HR 12).trans rfl
            have r13 : wf.cell? ⟨w.heap.size, 13, none⟩ = some (.int .u8 0) := (Lib.cell_of_heap HR 13).trans rfl
            have r14 : wf.cell? ⟨w.heap.size, 14, none⟩ = some (.int .u8 0) := (Lib.cell_of_heap HR 14).trans rfl
            have r15 : wf.cell? ⟨w.heap.size, 15, none⟩ = some (.int .u8 0) := (Lib.cell_of_heap HR 15).trans rfl
            refine bodyPost_ret (v := .tuple #[.agg #[.int .u8 0, .int .u8 0, .int .u8 0, .int .u8 0, .int .u8 0, .int .u8 0, .int .u8 0, .int .u8 0, .int .u8 0, .int .u8 0, .int .u8 0, .int .u8 0, .int .u8 0, .int .u8 0, .int .u8 0, .int .u8 0], .int .i64 130]) (by simp [results, Tryz.results53, go_sem, r0, r1, r2, r3, r4, r5, r6, r7, r8, r9, r10, r11, r12, r13, r14, r15]; try rfl) rfl ?_
            rw [hwf]
            exact ⟨HNO.out, below_setRow HBB.out (Nat.le_refl _) _⟩
    · as_aux_lemma =>
        obtain rfl : k = 36 := by omega
        have hall : allU l = true := by
          unfold allU
          rw [HLL.out]
          simp only [decide_true, Bool.true_and]
          rw [List.all_eq_true]
          intro j hj
          exact HOK.out j (List.mem_range.1 hj)
        have HYES := Lib.hid (HYES0.out hall)
        have hnx := fun ty => Lib.run_next_end_at (P := Tryz.prog) wr (w.heap.size + 1) s 36 ty HU.out.2.1 (by rw [HSZ.out]; omega)
        have HRB : Hid (wr.heap[w.heap.size]? = some (.cells (rowU g 32) 89 (0, 0))) := Lib.hid HU.out.1
        have HBB : Hid (Below w.heap.size w wr) := Lib.hid HU.out.2.2
        have hsz16 : (Tryz.prog.info? 89).map (·.size) = some (rowU g 32).size := by rw [rowU_size]; kernel_rfl
        have HS16 := Lib.hid hsz16
        clear hall HU hsz16
        go_wp2_with (first | (refine wpList_load_row rfl 89 _ rfl w.heap.size rfl 89 (rowU g 32) (0, 0) _ HRB.out Tryz.underlying89 rfl HS16.out ?_) | (refine wpList_store_row rfl 89 _ _ rfl w.heap.size (rowU g 32) rfl rfl 89 (rowU g 32) HRB.out HS16.out rfl (rowU_one _ _) ?_))
        have HR := setRow_heap _ _ _ (rowU g 32) _ _ HRB.out
        obtain ⟨wf, hwf⟩ : ∃ wf : World, wf = World.setRow wr w.heap.size (rowU g 32) := ⟨_, rfl⟩
        rw [← hwf] at HR
        rw [← hwf]
        have r0 : wf.cell? ⟨w.heap.size, 0, none⟩ = some (.int .u8 (cellU g 32 0 : Int)) := (Lib.cell_of_heap HR 0).trans (rowU_at _ _ _ (by omega))
        have r1 : wf.cell? ⟨w.heap.size, 1, none⟩ = some (.int .u8 (cellU g 32 1 : Int)) := (Lib.cell_of_heap HR 1).trans (rowU_at _ _ _ (by omega))
        have r2 : wf.cell? ⟨w.heap.size, 2, none⟩ = some (.int .u8 (cellU g 32 2 : Int)) := (Lib.cell_of_heap HR 2).trans (rowU_at _ _ _ (by omega))
        have r3 : wf.cell? ⟨w.heap.size, 3, none⟩ = some (.int .u8 (cellU g 32 3 : Int)) := (Lib.cell_of_heap HR 3).trans (rowU_at _ _ _ (by omega))
        have r4 : wf.cell? ⟨w.heap.size, 4, none⟩ = some (.int .u8 (cellU g 32 4 : Int)) := (Lib.cell_of_heap HR 4).trans (rowU_at _ _ _ (by omega))
        have r5 : wf.cell? ⟨w.heap.size, 5, none⟩ = some (.int .u8 (cellU g 32 5 : Int)) := (Lib.cell_of_heap HR 5).trans (rowU_at _ _ _ (by omega))
        have r6 : wf.cell? ⟨w.heap.size, 6, none⟩ = some (.int .u8 (cellU g 32 6 : Int)) := (Lib.cell_of_heap HR 6).trans (rowU_at _ _ _ (by omega))
        have r7 : wf.cell? ⟨w.heap.size, 7, none⟩ = some (.int .u8 (cellU g 32 7 : Int)) := (Lib.cell_of_heap HR 7).trans (rowU_at _ _ _ (by omega))
        have r8 : wf.cell? ⟨w.heap.size, 8, none⟩ = some (.int .u8 (cellU g 32 8 : Int)) := (Lib.cell_of_heap HR 8).trans (rowU_at _ _ _ (by omega))
        have r9 : wf.cell? ⟨w.heap.size, 9, none⟩ = some (.int .u8 (cellU g 32 9 : Int)) := (Lib.cell_of_heap HR 9).trans (rowU_at _ _ _ (by omega))
        have r10 : wf.cell? ⟨w.heap.size, 10, none⟩ = some (.int .u8 (cellU g 32 10 : Int)) := (Lib.cell_of_heap HR 10).trans (rowU_at _ _ _ (by omega))
        have r11 : wf.cell? ⟨w.heap.size, 11, none⟩ = some (.int .u8 (cellU g 32 11 : Int)) := (Lib.cell_of_heap HR 11).trans (rowU_at _ _ _ (by omega))
        have r12 : wf.cell? ⟨w.heap.size, 12, none⟩ = some (.int .u8 (cellU g 32 12 : Int)) := (Lib.cell_of_heap HR 12).trans (rowU_at _ _ _ (by omega))
        have r13 : wf.cell? ⟨w.heap.size, 13, none⟩ = some (.int .u8 (cellU g 32 13 : Int)) := (Lib.cell_of_heap HR 13).trans (rowU_at _ _ _ (by omega))
        have r14 : wf.cell? ⟨w.heap.size, 14, none⟩ = some (.int .u8 (cellU g 32 14 : Int)) := (Lib.cell_of_heap HR 14).trans (rowU_at _ _ _ (by omega))
        have r15 : wf.cell? ⟨w.heap.size, 15, none⟩ = some (.int .u8 (cellU g 32 15 : Int)) := (Lib.cell_of_heap HR 15).trans (rowU_at _ _ _ (by omega))
        refine bodyPost_ret (v := .tuple #[.agg #[.int .u8 (cellU g 32 0 : Int), .int .u8 (cellU g 32 1 : Int), .int .u8 (cellU g 32 2 : Int), .int .u8 (cellU g 32 3 : Int), .int .u8 (cellU g 32 4 : Int), .int .u8 (cellU g 32 5 : Int), .int .u8 (cellU g 32 6 : Int), .int .u8 (cellU g 32 7 : Int), .int .u8 (cellU g 32 8 : Int), .int .u8 (cellU g 32 9 : Int), .int .u8 (cellU g 32 10 : Int), .int .u8 (cellU g 32 11 : Int), .int .u8 (cellU g 32 12 : Int), .int .u8 (cellU g 32 13 : Int), .int .u8 (cellU g 32 14 : Int), .int .u8 (cellU g 32 15 : Int)], .int .i64 0]) (by simp [results, Tryz.results53, go_sem, r0, r1, r2, r3, r4, r5, r6, r7, r8, r9, r10, r11, r12, r13, r14, r15]; try rfl) rfl ?_
        rw [hwf]
        exact ⟨(by rw [← HYES.out]; rfl), below_setRow HBB.out (Nat.le_refl _) _⟩
end Go.Proofs.YtjhgiojmlkeccaaGreatDoor
namespace Go.Proofs.YtjhgiojmlkeccaaGreatDoor
open Go.RowKit Go.Shelf
set_option maxRecDepth 100000 in
set_option maxHeartbeats 8000000 in
theorem uparse_no (s : ByteArray) (hs : s.size ≠ 36) (hm : s.size ≤ 1000000) (w : World) :
    Calls Tryz.prog 53 #[.string s] w fun e w' => e = .returned (.tuple #[.agg #[.int .u8 0, .int .u8 0, .int .u8 0, .int .u8 0, .int .u8 0, .int .u8 0, .int .u8 0, .int .u8 0, .int .u8 0, .int .u8 0, .int .u8 0, .int .u8 0, .int .u8 0, .int .u8 0, .int .u8 0, .int .u8 0], .int .i64 130]) ∧ Below w.heap.size w w' := by
  have ht : ((s.size : Int) != 36) = true := by simp; omega
  have HRB : Hid ((w.alloc (.cells #[.int .u8 0, .int .u8 0, .int .u8 0, .int .u8 0, .int .u8 0, .int .u8 0, .int .u8 0, .int .u8 0, .int .u8 0, .int .u8 0, .int .u8 0, .int .u8 0, .int .u8 0, .int .u8 0, .int .u8 0, .int .u8 0] 89 (0, 0))).heap[w.heap.size]? = some (.cells #[.int .u8 0, .int .u8 0, .int .u8 0, .int .u8 0, .int .u8 0, .int .u8 0, .int .u8 0, .int .u8 0, .int .u8 0, .int .u8 0, .int .u8 0, .int .u8 0, .int .u8 0, .int .u8 0, .int .u8 0, .int .u8 0] 89 (0, 0))) := Lib.hid (heap_new _ _ _ rfl)
  have HBB : Hid (Below w.heap.size w (w.alloc (.cells #[.int .u8 0, .int .u8 0, .int .u8 0, .int .u8 0, .int .u8 0, .int .u8 0, .int .u8 0, .int .u8 0, .int .u8 0, .int .u8 0, .int .u8 0, .int .u8 0, .int .u8 0, .int .u8 0, .int .u8 0, .int .u8 0] 89 (0, 0)))) := Lib.hid ((Below.refl _ _).alloc (Nat.le_refl _) _)
  go_enter Tryz.func53, Tryz.ntmps53
  go_wp2_with (first | (refine wpList_load_row rfl 89 _ rfl w.heap.size rfl 89 #[.int .u8 0, .int .u8 0, .int .u8 0, .int .u8 0, .int .u8 0, .int .u8 0, .int .u8 0, .int .u8 0, .int .u8 0, .int .u8 0, .int .u8 0, .int .u8 0, .int .u8 0, .int .u8 0, .int .u8 0, .int .u8 0] (0, 0) _ HRB.out Tryz.underlying89 rfl (by kernel_rfl) ?_) | (refine wpList_store_row rfl 89 _ _ rfl w.heap.size #[.int .u8 0, .int .u8 0, .int .u8 0, .int .u8 0, .int .u8 0, .int .u8 0, .int .u8 0, .int .u8 0, .int .u8 0, .int .u8 0, .int .u8 0, .int .u8 0, .int .u8 0, .int .u8 0, .int .u8 0, .int .u8 0] rfl rfl 89 #[.int .u8 0, .int .u8 0, .int .u8 0, .int .u8 0, .int .u8 0, .int .u8 0, .int .u8 0, .int .u8 0, .int .u8 0, .int .u8 0, .int .u8 0, .int .u8 0, .int .u8 0, .int .u8 0, .int .u8 0, .int .u8 0] HRB.out (by kernel_rfl) rfl (by kernel_rfl) ?_))
  have HR := setRow_heap _ _ _ #[.int .u8 0, .int .u8 0, .int .u8 0, .int .u8 0, .int .u8 0, .int .u8 0, .int .u8 0, .int .u8 0, .int .u8 0, .int .u8 0, .int .u8 0, .int .u8 0, .int .u8 0, .int .u8 0, .int .u8 0, .int .u8 0] _ _ HRB.out
  obtain ⟨wf, hwf⟩ : ∃ wf : World, wf = World.setRow (w.alloc (.cells #[.int .u8 0, .int .u8 0, .int .u8 0, .int .u8 0, .int .u8 0, .int .u8 0, .int .u8 0, .int .u8 0, .int .u8 0, .int .u8 0, .int .u8 0, .int .u8 0, .int .u8 0, .int .u8 0, .int .u8 0, .int .u8 0] 89 (0, 0))) w.heap.size #[.int .u8 0, .int .u8 0, .int .u8 0, .int .u8 0, .int .u8 0, .int .u8 0, .int .u8 0, .int .u8 0, .int .u8 0, .int .u8 0, .int .u8 0, .int .u8 0, .int .u8 0, .int .u8 0, .int .u8 0, .int .u8 0] := ⟨_, rfl⟩
  rw [← hwf] at HR
  rw [← hwf]
  have r0 : wf.cell? ⟨w.heap.size, 0, none⟩ = some (.int .u8 0) := (Lib.cell_of_heap HR 0).trans rfl
  have r1 : wf.cell? ⟨w.heap.size, 1, none⟩ = some (.int .u8 0) := (Lib.cell_of_heap HR 1).trans rfl
  have r2 : wf.cell? ⟨w.heap.size, 2, none⟩ = some (.int .u8 0) := (Lib.cell_of_heap HR 2).trans rfl
  have r3 : wf.cell? ⟨w.heap.size, 3, none⟩ = some (.int .u8 0) := (Lib.cell_of_heap HR 3).trans rfl
  have r4 : wf.cell? ⟨w.heap.size, 4, none⟩ = some (.int .u8 0) := (Lib.cell_of_heap HR 4).trans rfl
  have r5 : wf.cell? ⟨w.heap.size, 5, none⟩ = some (.int .u8 0) := (Lib.cell_of_heap HR 5).trans rfl
  have r6 : wf.cell? ⟨w.heap.size, 6, none⟩ = some (.int .u8 0) := (Lib.cell_of_heap HR 6).trans rfl
  have r7 : wf.cell? ⟨w.heap.size, 7, none⟩ = some (.int .u8 0) := (Lib.cell_of_heap HR 7).trans rfl
  have r8 : wf.cell? ⟨w.heap.size, 8, none⟩ = some (.int .u8 0) := (Lib.cell_of_heap HR 8).trans rfl
  have r9 : wf.cell? ⟨w.heap.size, 9, none⟩ = some (.int .u8 0) := (Lib.cell_of_heap HR 9).trans rfl
  have r10 : wf.cell? ⟨w.heap.size, 10, none⟩ = some (.int .u8 0) := (Lib.cell_of_heap HR 10).trans rfl
  have r11 : wf.cell? ⟨w.heap.size, 11, none⟩ = some (.int .u8 0) := (Lib.cell_of_heap HR 11).trans rfl
  have r12 : wf.cell? ⟨w.heap.size, 12, none⟩ = some (.int .u8 0) := (Lib.cell_of_heap HR 12).trans rfl
  have r13 : wf.cell? ⟨w.heap.size, 13, none⟩ = some (.int .u8 0) := (Lib.cell_of_heap HR 13).trans rfl
  have r14 : wf.cell? ⟨w.heap.size, 14, none⟩ = some (.int .u8 0) := (Lib.cell_of_heap HR 14).trans rfl
  have r15 : wf.cell? ⟨w.heap.size, 15, none⟩ = some (.int .u8 0) := (Lib.cell_of_heap HR 15).trans rfl
  refine bodyPost_ret (v := .tuple #[.agg #[.int .u8 0, .int .u8 0, .int .u8 0, .int .u8 0, .int .u8 0, .int .u8 0, .int .u8 0, .int .u8 0, .int .u8 0, .int .u8 0, .int .u8 0, .int .u8 0, .int .u8 0, .int .u8 0, .int .u8 0, .int .u8 0], .int .i64 130]) (by simp [results, Tryz.results53, go_sem, r0, r1, r2, r3, r4, r5, r6, r7, r8, r9, r10, r11, r12, r13, r14, r15]; try rfl) rfl ?_
  rw [hwf]
  exact ⟨rfl, below_setRow HBB.out (Nat.le_refl _) _⟩
theorem uparse_any (l : List UInt8) (hl : l.length ≤ 1000000) (w : World) :
    Calls Tryz.prog 53 #[.string ⟨l.toArray⟩] w fun e w' => e = .returned (if allU l then .tuple #[.agg (rowU (gU l) 32), .int .i64 0] else .tuple #[.agg #[.int .u8 0, .int .u8 0, .int .u8 0, .int .u8 0, .int .u8 0, .int .u8 0, .int .u8 0, .int .u8 0, .int .u8 0, .int .u8 0, .int .u8 0, .int .u8 0, .int .u8 0, .int .u8 0, .int .u8 0, .int .u8 0], .int .i64 130]) ∧ Below w.heap.size w w' := by
  by_cases h : l.length = 36
  · exact uparse_36 l h _ w (fun ha => by rw [ha]; rfl) (fun ha => by rw [ha]; rfl)
  · have ha : allU l = false := by unfold allU; rw [decide_eq_false h]; rfl
    rw [ha]
    have hsz : (⟨l.toArray⟩ : ByteArray).size = l.length := by show l.toArray.size = _; simp
    exact uparse_no ⟨l.toArray⟩ (by rw [hsz]; exact h) (by rw [hsz]; exact hl) w
set_option maxRecDepth 100000 in
set_option maxHeartbeats 8000000 in
theorem ucanon_no (s : ByteArray) (w : World) (HP : Hid (DoesU w 53 #[.string s] (.tuple #[.agg #[.int .u8 0, .int .u8 0, .int .u8 0, .int .u8 0, .int .u8 0, .int .u8 0, .int .u8 0, .int .u8 0, .int .u8 0, .int .u8 0, .int .u8 0, .int .u8 0, .int .u8 0, .int .u8 0, .int .u8 0, .int .u8 0], .int .i64 130]))) :
    Calls Tryz.prog 35 #[.string s] w fun e w' => e = .returned (.tuple #[.string ⟨#[]⟩, .int .i64 130]) ∧ Below w.heap.size w w' := by
  go_enter Tryz.func35, Tryz.ntmps35
  go_wp2_with fail
  refine (HP.out _ (Below.refl _ _)).mono ?_; rintro e w1 ⟨rfl, hb⟩
  have HN : Hid ((w1.alloc (.cells #[.int .u8 0, .int .u8 0, .int .u8 0, .int .u8 0, .int .u8 0, .int .u8 0, .int .u8 0, .int .u8 0, .int .u8 0, .int .u8 0, .int .u8 0, .int .u8 0, .int .u8 0, .int .u8 0, .int .u8 0, .int .u8 0] 89 (0, 0))).heap[w1.heap.size]? = some (.cells #[.int .u8 0, .int .u8 0, .int .u8 0, .int .u8 0, .int .u8 0, .int .u8 0, .int .u8 0, .int .u8 0, .int .u8 0, .int .u8 0, .int .u8 0, .int .u8 0, .int .u8 0, .int .u8 0, .int .u8 0, .int .u8 0] 89 (0, 0))) := Lib.hid (heap_new _ _ _ rfl)
  have HB : Hid (Below w.heap.size w (w1.alloc (.cells #[.int .u8 0, .int .u8 0, .int .u8 0, .int .u8 0, .int .u8 0, .int .u8 0, .int .u8 0, .int .u8 0, .int .u8 0, .int .u8 0, .int .u8 0, .int .u8 0, .int .u8 0, .int .u8 0, .int .u8 0, .int .u8 0] 89 (0, 0)))) := Lib.hid (hb.trans ((Below.refl _ _).alloc hb.size _))
  have HS := Lib.hid hb.size
  clear hb
  go_wp2_with (refine wpList_store_row rfl 89 _ _ rfl w1.heap.size #[.int .u8 0, .int .u8 0, .int .u8 0, .int .u8 0, .int .u8 0, .int .u8 0, .int .u8 0, .int .u8 0, .int .u8 0, .int .u8 0, .int .u8 0, .int .u8 0, .int .u8 0, .int .u8 0, .int .u8 0, .int .u8 0] rfl rfl 89 #[.int .u8 0, .int .u8 0, .int .u8 0, .int .u8 0, .int .u8 0, .int .u8 0, .int .u8 0, .int .u8 0, .int .u8 0, .int .u8 0, .int .u8 0, .int .u8 0, .int .u8 0, .int .u8 0, .int .u8 0, .int .u8 0] HN.out (by kernel_rfl) rfl (by kernel_rfl) ?_)
  go_ret2
  exact ⟨rfl, below_setRow HB.out HS.out _⟩
set_option maxRecDepth 100000 in
set_option maxHeartbeats 8000000 in
theorem ucanon_go (s t : ByteArray) (X : Array Value) (hX : X.size = 16) (h1 : X.all (·.oneCell') = true) (w : World) (HP : Hid (DoesU w 53 #[.string s] (.tuple #[.agg X, .int .i64 0]))) (HT : Hid (DoesU w 54 #[.agg X] (.string t))) :
    Calls Tryz.prog 35 #[.string s] w fun e w' => e = .returned (.tuple #[.string t, .int .i64 0]) ∧ Below w.heap.size w w' := by
  have hs16 : (Tryz.prog.info? 89).map (·.size) = some X.size := by rw [hX]; kernel_rfl
  have HS16 := Lib.hid (And.intro hs16 (And.intro hX h1))
  clear hs16 hX h1
  go_enter Tryz.func35, Tryz.ntmps35
  go_wp2_with fail
  refine (HP.out _ (Below.refl _ _)).mono ?_; rintro e w1 ⟨rfl, hb⟩
  have HN : Hid ((w1.alloc (.cells #[.int .u8 0, .int .u8 0, .int .u8 0, .int .u8 0, .int .u8 0, .int .u8 0, .int .u8 0, .int .u8 0, .int .u8 0, .int .u8 0, .int .u8 0, .int .u8 0, .int .u8 0, .int .u8 0, .int .u8 0, .int .u8 0] 89 (0, 0))).heap[w1.heap.size]? = some (.cells #[.int .u8 0, .int .u8 0, .int .u8 0, .int .u8 0, .int .u8 0, .int .u8 0, .int .u8 0, .int .u8 0, .int .u8 0, .int .u8 0, .int .u8 0, .int .u8 0, .int .u8 0, .int .u8 0, .int .u8 0, .int .u8 0] 89 (0, 0))) := Lib.hid (heap_new _ _ _ rfl)
  have HB : Hid (Below w.heap.size w (w1.alloc (.cells #[.int .u8 0, .int .u8 0, .int .u8 0, .int .u8 0, .int .u8 0, .int .u8 0, .int .u8 0, .int .u8 0, .int .u8 0, .int .u8 0, .int .u8 0, .int .u8 0, .int .u8 0, .int .u8 0, .int .u8 0, .int .u8 0] 89 (0, 0)))) := Lib.hid (hb.trans ((Below.refl _ _).alloc hb.size _))
  have HS := Lib.hid hb.size
  have HN2 : Hid (((w1.alloc (.cells #[.int .u8 0, .int .u8 0, .int .u8 0, .int .u8 0, .int .u8 0, .int .u8 0, .int .u8 0, .int .u8 0, .int .u8 0, .int .u8 0, .int .u8 0, .int .u8 0, .int .u8 0, .int .u8 0, .int .u8 0, .int .u8 0] 89 (0, 0))).setRow w1.heap.size X).heap[w1.heap.size]? = some (.cells X 89 (0, 0))) := Lib.hid (setRow_heap _ _ _ X _ _ HN.out)
  have HB2 : Hid (Below w.heap.size w ((w1.alloc (.cells #[.int .u8 0, .int .u8 0, .int .u8 0, .int .u8 0, .int .u8 0, .int .u8 0, .int .u8 0, .int .u8 0, .int .u8 0, .int .u8 0, .int .u8 0, .int .u8 0, .int .u8 0, .int .u8 0, .int .u8 0, .int .u8 0] 89 (0, 0))).setRow w1.heap.size X)) := Lib.hid (below_setRow HB.out HS.out _)
  clear hb
  go_wp2_with (first | (refine wpList_store_row rfl 89 _ _ rfl w1.heap.size X rfl rfl 89 #[.int .u8 0, .int .u8 0, .int .u8 0, .int .u8 0, .int .u8 0, .int .u8 0, .int .u8 0, .int .u8 0, .int .u8 0, .int .u8 0, .int .u8 0, .int .u8 0, .int .u8 0, .int .u8 0, .int .u8 0, .int .u8 0] HN.out HS16.out.1 (by rw [HS16.out.2.1]; rfl) HS16.out.2.2 ?_) | (refine wpList_load_row rfl 89 _ rfl w1.heap.size rfl 89 X (0, 0) _ HN2.out Tryz.underlying89 rfl HS16.out.1 ?_))
  refine (HT.out _ HB2.out).mono ?_; rintro e w2 ⟨rfl, hb⟩
  have HB3 : Hid (Below w.heap.size w w2) := Lib.hid (HB2.out.trans (hb.mono HB2.out.size))
  clear hb
  go_wp2_with fail
  go_ret2
  exact ⟨rfl, HB3.out⟩
def uuC : ByteArray → ByteArray × Int := fun s => if allU s.data.toList then (⟨(txtU (cellU (gU s.data.toList) 32) 36).toArray⟩, 0) else (⟨#[]⟩, 130)
theorem bytes_of_u (s : ByteArray) : (⟨s.data.toList.toArray⟩ : ByteArray) = s := by cases s; simp
theorem uuid_c (w : World) : CanC w 35 #[] uuC := fun s hs W hW => by
  rw [app_nil]; unfold uuC
  have hP : DoesU W 53 #[.string s] (if allU s.data.toList then .tuple #[.agg (rowU (gU s.data.toList) 32), .int .i64 0] else .tuple #[.agg #[.int .u8 0, .int .u8 0, .int .u8 0, .int .u8 0, .int .u8 0, .int .u8 0, .int .u8 0, .int .u8 0, .int .u8 0, .int .u8 0, .int .u8 0, .int .u8 0, .int .u8 0, .int .u8 0, .int .u8 0, .int .u8 0], .int .i64 130]) := fun W' _ => by
    have := uparse_any s.data.toList (by rw [Array.length_toList]; show s.size ≤ _; omega) W'
    rw [bytes_of_u] at this
    exact this
  cases h : allU s.data.toList with
  | true =>
    rw [h, if_pos rfl] at hP
    rw [if_pos rfl]
    exact ucanon_go s _ _ (rowU_size _ _) (rowU_one _ _) W (Lib.hid hP) (Lib.hid fun W' _ => utext_any _ (cellU (gU s.data.toList) 32) (rowU_size _ _) (fun j hj => rowU_at _ _ _ hj) (fun j => cellU_lt _ _ _) W')
  | false =>
    rw [h, if_neg Bool.false_ne_true] at hP
    rw [if_neg Bool.false_ne_true]
    exact ucanon_no s W (Lib.hid hP)
theorem kind_6 (w : World) (hE : EnvS w) :
    Calls Tryz.prog 15 #[.int .u8 6] w fun e w' => (∃ cap : Array Value, e = .returned (.tuple #[.agg #[.func (.func 46) #[] cap, (.func (.func 22) #[] #[]), .nilFunc, .bool false], .int .i64 0]) ∧ PlC w' 46 cap (.func (.func 22) #[] #[]) .nilFunc false (toldR uuC)) ∧ Below w.heap.size w w' := by
  refine (of_6 w).mono ?_
  rintro e w1 ⟨⟨p6, rfl, h1⟩, hb⟩
  exact ⟨⟨_, rfl, plain_c _ _ _ _ _ _ w1 ent_told (told_c p6 _ #[] uuC w1 h1 (enters_of Tryz.func35 (by kernel_rfl) rfl) (hE.u.below hb) (uuid_c w1))⟩, hb⟩
end Go.Proofs.YtjhgiojmlkeccaaGreatDoor
namespace Go.Proofs.YtjhgiojmlkeccaaGreatDoor
open Go.RowKit Go.Shelf
theorem cmpK (w : World) (k : Int) (g gc : Nat) (a : Value) (l : Bool) (rd : RdV) (HK : KindC w k g (.func (.func gc) #[] #[]) a l rd) (ha : a.oneCell' = true) (eg : ∀ args w, (callFunc gc args).run Tryz.prog w = .ok (.enter gc args) w) (k1 : Int) (nm1 tx1 : ByteArray) (n1 m1 : Int) (k2 : Int) (nm2 tx2 : ByteArray) (n2 m2 : Int) (B1 : (0 ≤ k1 ∧ k1 ≤ 255) ∧ tx1.size ≤ 1000000 ∧ R n1 ∧ R m1) (B2 : (0 ≤ k2 ∧ k2 ≤ 255) ∧ tx2.size ≤ 1000000 ∧ R n2 ∧ R m2) (r : Int)
    (HG : DoesU w gc #[.agg #[.int .u8 k1, .string nm1, .string tx1, .int .i64 n1, .int .i64 m1], .agg #[.int .u8 k2, .string nm2, .string tx2, .int .i64 n2, .int .i64 m2]] (.int .i64 r)) :
    DoesU w 10 #[.int .u8 k, .agg #[.int .u8 k1, .string nm1, .string tx1, .int .i64 n1, .int .i64 m1], .agg #[.int .u8 k2, .string nm2, .string tx2, .int .i64 n2, .int .i64 m2]] (.tuple #[.int .i64 (if okP rd k1 nm1 tx1 n1 m1 ∧ okP rd k2 nm2 tx2 n2 m2 then r else 0), .int .i64 (if okP rd k1 nm1 tx1 n1 m1 ∧ okP rd k2 nm2 tx2 n2 m2 then 0 else 160)]) := fun W hW => by
  by_cases h : okP rd k1 nm1 tx1 n1 m1 ∧ okP rd k2 nm2 tx2 n2 m2
  · rw [if_pos h, if_pos h]
    obtain ⟨⟨e1, rfl, rfl⟩, ⟨e2, rfl, rfl⟩⟩ := h
    exact scompare_go k k1 ⟨#[]⟩ tx1 n1 0 k2 ⟨#[]⟩ tx2 n2 0 r W (Lib.hid fun W' hW' => (HK.below hW W' hW').mono fun e w' ⟨⟨cap, he, hp⟩, hb⟩ => ⟨⟨g, cap, gc, a, l, he, Lib.hid ha, Lib.hid eg, (Lib.hid (by have := hp k1 ⟨#[]⟩ tx1 n1 0 B1.1.1 B1.1.2 B1.2.1 B1.2.2.1 B1.2.2.2; rw [e1] at this; exact this)), (Lib.hid (by have := hp k2 ⟨#[]⟩ tx2 n2 0 B2.1.1 B2.1.2 B2.2.1 B2.2.2.1 B2.2.2.2; rw [e2] at this; exact this)), Lib.hid (((HG.below hW).below hW').below hb)⟩, hb⟩)
  · rw [if_neg h, if_neg h]
    exact scompare_bad k k1 nm1 tx1 n1 m1 k2 nm2 tx2 n2 m2 rd W (Lib.hid h) (Lib.hid B1) (Lib.hid B2) (Lib.hid fun W' hW' => (HK.below hW W' hW').mono fun e w' ⟨⟨cap, he, hp⟩, hb⟩ => ⟨⟨g, cap, gc, a, l, he, Lib.hid ha, Lib.hid hp⟩, hb⟩)
theorem cmpK_none (w : World) (k : Int) (g : Nat) (a : Value) (l : Bool) (rd : RdV) (HK : KindC w k g .nilFunc a l rd) (ha : a.oneCell' = true) (k1 : Int) (nm1 tx1 : ByteArray) (n1 m1 : Int) (k2 : Int) (nm2 tx2 : ByteArray) (n2 m2 : Int) :
    DoesU w 10 #[.int .u8 k, .agg #[.int .u8 k1, .string nm1, .string tx1, .int .i64 n1, .int .i64 m1], .agg #[.int .u8 k2, .string nm2, .string tx2, .int .i64 n2, .int .i64 m2]] (.tuple #[.int .i64 0, .int .i64 6]) := fun W hW =>
  scompare_none k k1 nm1 tx1 n1 m1 k2 nm2 tx2 n2 m2 W (Lib.hid fun W' hW' => (HK.below hW W' hW').mono fun e w' ⟨⟨cap, he, hp⟩, hb⟩ => ⟨⟨g, cap, a, l, he, Lib.hid ha⟩, hb⟩)
theorem addK_none (w : World) (k : Int) (g : Nat) (c : Value) (l : Bool) (rd : RdV) (HK : KindC w k g c .nilFunc l rd) (hc : c.oneCell' = true) (k1 : Int) (nm1 tx1 : ByteArray) (n1 m1 : Int) (k2 : Int) (nm2 tx2 : ByteArray) (n2 m2 : Int) :
    DoesU w 11 #[.int .u8 k, .agg #[.int .u8 k1, .string nm1, .string tx1, .int .i64 n1, .int .i64 m1], .agg #[.int .u8 k2, .string nm2, .string tx2, .int .i64 n2, .int .i64 m2]] (.tuple #[.agg #[.int .u8 0, .string ⟨#[]⟩, .string ⟨#[]⟩, .int .i64 0, .int .i64 0], .int .i64 6]) := fun W hW =>
  sadd_none k k1 nm1 tx1 n1 m1 k2 nm2 tx2 n2 m2 W (Lib.hid fun W' hW' => (HK.below hW W' hW').mono fun e w' ⟨⟨cap, he, hp⟩, hb⟩ => ⟨⟨g, cap, c, l, he, Lib.hid hc⟩, hb⟩)
theorem kindc_5 (w : World) (hE : EnvS w) : KindC w 5 46 (.func (.func 34) #[] #[]) .nilFunc false (toldR dayC) := fun W hW => kind_5 W (hE.below hW)
theorem kindc_6 (w : World) (hE : EnvS w) : KindC w 6 46 (.func (.func 22) #[] #[]) .nilFunc false (toldR uuC) := fun W hW => kind_6 W (hE.below hW)
theorem ent_daysx : ∀ args w, (callFunc 34 args).run Tryz.prog w = .ok (.enter 34 args) w := enters_of Tryz.func34 (by kernel_rfl) rfl
theorem cmp_1 (w : World) (hE : EnvS w) (k1 : Int) (nm1 tx1 : ByteArray) (n1 m1 : Int) (k2 : Int) (nm2 tx2 : ByteArray) (n2 m2 : Int) (B1 : (0 ≤ k1 ∧ k1 ≤ 255) ∧ tx1.size ≤ 1000000 ∧ R n1 ∧ R m1) (B2 : (0 ≤ k2 ∧ k2 ≤ 255) ∧ tx2.size ≤ 1000000 ∧ R n2 ∧ R m2) : DoesU w 10 #[.int .u8 1, .agg #[.int .u8 k1, .string nm1, .string tx1, .int .i64 n1, .int .i64 m1], .agg #[.int .u8 k2, .string nm2, .string tx2, .int .i64 n2, .int .i64 m2]] (.tuple #[.int .i64 (if okP numR k1 nm1 tx1 n1 m1 ∧ okP numR k2 nm2 tx2 n2 m2 then (cmpI n1 n2) else 0), .int .i64 (if okP numR k1 nm1 tx1 n1 m1 ∧ okP numR k2 nm2 tx2 n2 m2 then 0 else 160)]) :=
  cmpK w 1 _ _ _ _ _ (kindc_1 w hE) rfl ent_cmpi k1 nm1 tx1 n1 m1 k2 nm2 tx2 n2 m2 B1 B2 _ (fun W _ => cmpn_any k1 k2 nm1 tx1 nm2 tx2 n1 m1 n2 m2 W)
theorem cmp_2 (w : World) (hE : EnvS w) (k1 : Int) (nm1 tx1 : ByteArray) (n1 m1 : Int) (k2 : Int) (nm2 tx2 : ByteArray) (n2 m2 : Int) (B1 : (0 ≤ k1 ∧ k1 ≤ 255) ∧ tx1.size ≤ 1000000 ∧ R n1 ∧ R m1) (B2 : (0 ≤ k2 ∧ k2 ≤ 255) ∧ tx2.size ≤ 1000000 ∧ R n2 ∧ R m2) : DoesU w 10 #[.int .u8 2, .agg #[.int .u8 k1, .string nm1, .string tx1, .int .i64 n1, .int .i64 m1], .agg #[.int .u8 k2, .string nm2, .string tx2, .int .i64 n2, .int .i64 m2]] (.tuple #[.int .i64 (if okP (toldR sameC) k1 nm1 tx1 n1 m1 ∧ okP (toldR sameC) k2 nm2 tx2 n2 m2 then (ordB tx1 tx2) else 0), .int .i64 (if okP (toldR sameC) k1 nm1 tx1 n1 m1 ∧ okP (toldR sameC) k2 nm2 tx2 n2 m2 then 0 else 160)]) :=
  cmpK w 2 _ _ _ _ _ (kindc_2 w hE) rfl ent_bytes k1 nm1 tx1 n1 m1 k2 nm2 tx2 n2 m2 B1 B2 _ (fun W _ => bytes_any k1 k2 nm1 tx1 nm2 tx2 n1 m1 n2 m2 W)
theorem cmp_4 (w : World) (hE : EnvS w) (k1 : Int) (nm1 tx1 : ByteArray) (n1 m1 : Int) (k2 : Int) (nm2 tx2 : ByteArray) (n2 m2 : Int) (B1 : (0 ≤ k1 ∧ k1 ≤ 255) ∧ tx1.size ≤ 1000000 ∧ R n1 ∧ R m1) (B2 : (0 ≤ k2 ∧ k2 ≤ 255) ∧ tx2.size ≤ 1000000 ∧ R n2 ∧ R m2) : DoesU w 10 #[.int .u8 4, .agg #[.int .u8 k1, .string nm1, .string tx1, .int .i64 n1, .int .i64 m1], .agg #[.int .u8 k2, .string nm2, .string tx2, .int .i64 n2, .int .i64 m2]] (.tuple #[.int .i64 (if okP (digsR (toldR someC)) k1 nm1 tx1 n1 m1 ∧ okP (digsR (toldR someC)) k2 nm2 tx2 n2 m2 then (ordB tx1 tx2) else 0), .int .i64 (if okP (digsR (toldR someC)) k1 nm1 tx1 n1 m1 ∧ okP (digsR (toldR someC)) k2 nm2 tx2 n2 m2 then 0 else 160)]) :=
  cmpK w 4 _ _ _ _ _ (kindc_4 w hE) rfl ent_bytes k1 nm1 tx1 n1 m1 k2 nm2 tx2 n2 m2 B1 B2 _ (fun W _ => bytes_any k1 k2 nm1 tx1 nm2 tx2 n1 m1 n2 m2 W)
theorem cmp_6 (w : World) (hE : EnvS w) (k1 : Int) (nm1 tx1 : ByteArray) (n1 m1 : Int) (k2 : Int) (nm2 tx2 : ByteArray) (n2 m2 : Int) (B1 : (0 ≤ k1 ∧ k1 ≤ 255) ∧ tx1.size ≤ 1000000 ∧ R n1 ∧ R m1) (B2 : (0 ≤ k2 ∧ k2 ≤ 255) ∧ tx2.size ≤ 1000000 ∧ R n2 ∧ R m2) : DoesU w 10 #[.int .u8 6, .agg #[.int .u8 k1, .string nm1, .string tx1, .int .i64 n1, .int .i64 m1], .agg #[.int .u8 k2, .string nm2, .string tx2, .int .i64 n2, .int .i64 m2]] (.tuple #[.int .i64 (if okP (toldR uuC) k1 nm1 tx1 n1 m1 ∧ okP (toldR uuC) k2 nm2 tx2 n2 m2 then (ordB tx1 tx2) else 0), .int .i64 (if okP (toldR uuC) k1 nm1 tx1 n1 m1 ∧ okP (toldR uuC) k2 nm2 tx2 n2 m2 then 0 else 160)]) :=
  cmpK w 6 _ _ _ _ _ (kindc_6 w hE) rfl ent_bytes k1 nm1 tx1 n1 m1 k2 nm2 tx2 n2 m2 B1 B2 _ (fun W _ => bytes_any k1 k2 nm1 tx1 nm2 tx2 n1 m1 n2 m2 W)
theorem cmp_5 (w : World) (hE : EnvS w) (k1 : Int) (nm1 tx1 : ByteArray) (n1 m1 : Int) (k2 : Int) (nm2 tx2 : ByteArray) (n2 m2 : Int) (B1 : (0 ≤ k1 ∧ k1 ≤ 255) ∧ tx1.size ≤ 1000000 ∧ R n1 ∧ R m1) (B2 : (0 ≤ k2 ∧ k2 ≤ 255) ∧ tx2.size ≤ 1000000 ∧ R n2 ∧ R m2) : DoesU w 10 #[.int .u8 5, .agg #[.int .u8 k1, .string nm1, .string tx1, .int .i64 n1, .int .i64 m1], .agg #[.int .u8 k2, .string nm2, .string tx2, .int .i64 n2, .int .i64 m2]] (.tuple #[.int .i64 (if okP (toldR dayC) k1 nm1 tx1 n1 m1 ∧ okP (toldR dayC) k2 nm2 tx2 n2 m2 then (dayO tx1 tx2) else 0), .int .i64 (if okP (toldR dayC) k1 nm1 tx1 n1 m1 ∧ okP (toldR dayC) k2 nm2 tx2 n2 m2 then 0 else 160)]) :=
  cmpK w 5 _ _ _ _ _ (kindc_5 w hE) rfl ent_daysx k1 nm1 tx1 n1 m1 k2 nm2 tx2 n2 m2 B1 B2 _ (days_c k1 k2 nm1 tx1 nm2 tx2 n1 m1 n2 m2 B1.2.1 B2.2.1 w)
end Go.Proofs.YtjhgiojmlkeccaaGreatDoor
namespace Go.Proofs.YtjhgiojmlkeccaaGreatDoor
open Go.RowKit Go.Shelf
theorem ent_moneys' : ∀ args w, (callFunc 37 args).run Tryz.prog w = .ok (.enter 37 args) w := enters_of Tryz.func37 (by kernel_rfl) rfl
theorem ent_sums' : ∀ args w, (callFunc 38 args).run Tryz.prog w = .ok (.enter 38 args) w := enters_of Tryz.func38 (by kernel_rfl) rfl
theorem ent_ints' : ∀ args w, (callFunc 27 args).run Tryz.prog w = .ok (.enter 27 args) w := enters_of Tryz.func27 (by kernel_rfl) rfl
/-- The order of two texts of money. -/
def monO (a b : ByteArray) : Int := cmpV (pM a.data.toList) (pS a.data.toList) (pM b.data.toList) (pS b.data.toList)
theorem mons_c (k1 k2 : Int) (nm1 tx1 nm2 tx2 : ByteArray) (n1 m1 n2 m2 : Int) (h1 : tx1.size ≤ 1000000) (h2 : tx2.size ≤ 1000000) (w : World) (hE : EnvS w) :
    DoesU w 37 #[.agg #[.int .u8 k1, .string nm1, .string tx1, .int .i64 n1, .int .i64 m1], .agg #[.int .u8 k2, .string nm2, .string tx2, .int .i64 n2, .int .i64 m2]] (.int .i64 (monO tx1 tx2)) := fun W hW =>
  moneys_any k1 k2 nm1 tx1 nm2 tx2 n1 m1 n2 m2 _ _ _ _ _ _ _ _ W (Lib.hid (mparse_d tx1 h1 W (hE.below hW).r)) (Lib.hid (mparse_d tx2 h2 W (hE.below hW).r)) (Lib.hid fun W' _ => mcmp_any _ _ _ _ (pM_Rs _).1 (pM_Rs _).2 (pM_Rs _).1 (pM_Rs _).2 W')
theorem cmp_7 (w : World) (hE : EnvS w) (k1 : Int) (nm1 tx1 : ByteArray) (n1 m1 : Int) (k2 : Int) (nm2 tx2 : ByteArray) (n2 m2 : Int) (B1 : (0 ≤ k1 ∧ k1 ≤ 255) ∧ tx1.size ≤ 1000000 ∧ R n1 ∧ R m1) (B2 : (0 ≤ k2 ∧ k2 ≤ 255) ∧ tx2.size ≤ 1000000 ∧ R n2 ∧ R m2) : DoesU w 10 #[.int .u8 7, .agg #[.int .u8 k1, .string nm1, .string tx1, .int .i64 n1, .int .i64 m1], .agg #[.int .u8 k2, .string nm2, .string tx2, .int .i64 n2, .int .i64 m2]] (.tuple #[.int .i64 (if okP (digsR (toldR decC)) k1 nm1 tx1 n1 m1 ∧ okP (digsR (toldR decC)) k2 nm2 tx2 n2 m2 then (monO tx1 tx2) else 0), .int .i64 (if okP (digsR (toldR decC)) k1 nm1 tx1 n1 m1 ∧ okP (digsR (toldR decC)) k2 nm2 tx2 n2 m2 then 0 else 160)]) :=
  cmpK w 7 _ _ _ _ _ (kindc_7 w hE) rfl ent_moneys' k1 nm1 tx1 n1 m1 k2 nm2 tx2 n2 m2 B1 B2 _ (mons_c k1 k2 nm1 tx1 nm2 tx2 n1 m1 n2 m2 B1.2.1 B2.2.1 w hE)
section
variable (w : World) (k1 : Int) (nm1 tx1 : ByteArray) (n1 m1 : Int) (k2 : Int) (nm2 tx2 : ByteArray) (n2 m2 : Int)
theorem cmp_3 (hE : EnvS w) : DoesU w 10 #[.int .u8 3, .agg #[.int .u8 k1, .string nm1, .string tx1, .int .i64 n1, .int .i64 m1], .agg #[.int .u8 k2, .string nm2, .string tx2, .int .i64 n2, .int .i64 m2]] (.tuple #[.int .i64 0, .int .i64 6]) :=
  cmpK_none w 3 _ _ _ _ (kindc_3 w hE) rfl k1 nm1 tx1 n1 m1 k2 nm2 tx2 n2 m2
theorem cmp_8 : DoesU w 10 #[.int .u8 8, .agg #[.int .u8 k1, .string nm1, .string tx1, .int .i64 n1, .int .i64 m1], .agg #[.int .u8 k2, .string nm2, .string tx2, .int .i64 n2, .int .i64 m2]] (.tuple #[.int .i64 0, .int .i64 6]) := fun W hW =>
  scompare_none 8 k1 nm1 tx1 n1 m1 k2 nm2 tx2 n2 m2 W (Lib.hid fun W' hW' => (of_8 W').mono fun e w' ⟨⟨p8, he, hp⟩, hb⟩ => ⟨⟨_, _, _, _, he, Lib.hid rfl⟩, hb⟩)
theorem cmp_low : DoesU w 10 #[.int .u8 0, .agg #[.int .u8 k1, .string nm1, .string tx1, .int .i64 n1, .int .i64 m1], .agg #[.int .u8 k2, .string nm2, .string tx2, .int .i64 n2, .int .i64 m2]] (.tuple #[.int .i64 0, .int .i64 2]) := fun W hW =>
  scompare_arg 0 k1 nm1 tx1 n1 m1 k2 nm2 tx2 n2 m2 W (Lib.hid fun W' hW' => of_low W')
theorem cmp_high (k : Int) (h1 : 9 ≤ k) (h2 : k ≤ 255) : DoesU w 10 #[.int .u8 k, .agg #[.int .u8 k1, .string nm1, .string tx1, .int .i64 n1, .int .i64 m1], .agg #[.int .u8 k2, .string nm2, .string tx2, .int .i64 n2, .int .i64 m2]] (.tuple #[.int .i64 0, .int .i64 2]) := fun W hW =>
  scompare_arg k k1 nm1 tx1 n1 m1 k2 nm2 tx2 n2 m2 W (Lib.hid fun W' hW' => of_high k h1 h2 W')
theorem add_none2 (hE : EnvS w) : DoesU w 11 #[.int .u8 2, .agg #[.int .u8 k1, .string nm1, .string tx1, .int .i64 n1, .int .i64 m1], .agg #[.int .u8 k2, .string nm2, .string tx2, .int .i64 n2, .int .i64 m2]] (.tuple #[.agg #[.int .u8 0, .string ⟨#[]⟩, .string ⟨#[]⟩, .int .i64 0, .int .i64 0], .int .i64 6]) := addK_none w 2 _ _ _ _ (kindc_2 w hE) rfl k1 nm1 tx1 n1 m1 k2 nm2 tx2 n2 m2
theorem add_none3 (hE : EnvS w) : DoesU w 11 #[.int .u8 3, .agg #[.int .u8 k1, .string nm1, .string tx1, .int .i64 n1, .int .i64 m1], .agg #[.int .u8 k2, .string nm2, .string tx2, .int .i64 n2, .int .i64 m2]] (.tuple #[.agg #[.int .u8 0, .string ⟨#[]⟩, .string ⟨#[]⟩, .int .i64 0, .int .i64 0], .int .i64 6]) := addK_none w 3 _ _ _ _ (kindc_3 w hE) rfl k1 nm1 tx1 n1 m1 k2 nm2 tx2 n2 m2
theorem add_none4 (hE : EnvS w) : DoesU w 11 #[.int .u8 4, .agg #[.int .u8 k1, .string nm1, .string tx1, .int .i64 n1, .int .i64 m1], .agg #[.int .u8 k2, .string nm2, .string tx2, .int .i64 n2, .int .i64 m2]] (.tuple #[.agg #[.int .u8 0, .string ⟨#[]⟩, .string ⟨#[]⟩, .int .i64 0, .int .i64 0], .int .i64 6]) := addK_none w 4 _ _ _ _ (kindc_4 w hE) rfl k1 nm1 tx1 n1 m1 k2 nm2 tx2 n2 m2
theorem add_none5 (hE : EnvS w) : DoesU w 11 #[.int .u8 5, .agg #[.int .u8 k1, .string nm1, .string tx1, .int .i64 n1, .int .i64 m1], .agg #[.int .u8 k2, .string nm2, .string tx2, .int .i64 n2, .int .i64 m2]] (.tuple #[.agg #[.int .u8 0, .string ⟨#[]⟩, .string ⟨#[]⟩, .int .i64 0, .int .i64 0], .int .i64 6]) := addK_none w 5 _ _ _ _ (kindc_5 w hE) rfl k1 nm1 tx1 n1 m1 k2 nm2 tx2 n2 m2
theorem add_none6 (hE : EnvS w) : DoesU w 11 #[.int .u8 6, .agg #[.int .u8 k1, .string nm1, .string tx1, .int .i64 n1, .int .i64 m1], .agg #[.int .u8 k2, .string nm2, .string tx2, .int .i64 n2, .int .i64 m2]] (.tuple #[.agg #[.int .u8 0, .string ⟨#[]⟩, .string ⟨#[]⟩, .int .i64 0, .int .i64 0], .int .i64 6]) := addK_none w 6 _ _ _ _ (kindc_6 w hE) rfl k1 nm1 tx1 n1 m1 k2 nm2 tx2 n2 m2
theorem add_none8 : DoesU w 11 #[.int .u8 8, .agg #[.int .u8 k1, .string nm1, .string tx1, .int .i64 n1, .int .i64 m1], .agg #[.int .u8 k2, .string nm2, .string tx2, .int .i64 n2, .int .i64 m2]] (.tuple #[.agg #[.int .u8 0, .string ⟨#[]⟩, .string ⟨#[]⟩, .int .i64 0, .int .i64 0], .int .i64 6]) := fun W hW =>
  sadd_none 8 k1 nm1 tx1 n1 m1 k2 nm2 tx2 n2 m2 W (Lib.hid fun W' hW' => (of_8 W').mono fun e w' ⟨⟨p8, he, hp⟩, hb⟩ => ⟨⟨_, _, _, _, he, Lib.hid rfl⟩, hb⟩)
theorem add_low : DoesU w 11 #[.int .u8 0, .agg #[.int .u8 k1, .string nm1, .string tx1, .int .i64 n1, .int .i64 m1], .agg #[.int .u8 k2, .string nm2, .string tx2, .int .i64 n2, .int .i64 m2]] (.tuple #[.agg #[.int .u8 0, .string ⟨#[]⟩, .string ⟨#[]⟩, .int .i64 0, .int .i64 0], .int .i64 2]) := fun W hW =>
  sadd_arg 0 k1 nm1 tx1 n1 m1 k2 nm2 tx2 n2 m2 W (Lib.hid fun W' hW' => of_low W')
theorem add_high (k : Int) (h1 : 9 ≤ k) (h2 : k ≤ 255) : DoesU w 11 #[.int .u8 k, .agg #[.int .u8 k1, .string nm1, .string tx1, .int .i64 n1, .int .i64 m1], .agg #[.int .u8 k2, .string nm2, .string tx2, .int .i64 n2, .int .i64 m2]] (.tuple #[.agg #[.int .u8 0, .string ⟨#[]⟩, .string ⟨#[]⟩, .int .i64 0, .int .i64 0], .int .i64 2]) := fun W hW =>
  sadd_arg k k1 nm1 tx1 n1 m1 k2 nm2 tx2 n2 m2 W (Lib.hid fun W' hW' => of_high k h1 h2 W')
end
end Go.Proofs.YtjhgiojmlkeccaaGreatDoor
namespace Go.Proofs.YtjhgiojmlkeccaaGreatDoor
open Go.RowKit Go.Shelf
theorem addKo (w : World) (k : Int) (g ga : Nat) (c : Value) (l : Bool) (rd : RdV) (HK : KindC w k g c (.func (.func ga) #[] #[]) l rd) (hc : c.oneCell' = true) (eg : ∀ args w, (callFunc ga args).run Tryz.prog w = .ok (.enter ga args) w) (k1 : Int) (nm1 tx1 : ByteArray) (n1 m1 : Int) (k2 : Int) (nm2 tx2 : ByteArray) (n2 m2 : Int) (B1 : (0 ≤ k1 ∧ k1 ≤ 255) ∧ tx1.size ≤ 1000000 ∧ R n1 ∧ R m1) (B2 : (0 ≤ k2 ∧ k2 ≤ 255) ∧ tx2.size ≤ 1000000 ∧ R n2 ∧ R m2) (rk : Int) (rn rt : ByteArray) (ri rm : Int) (t : Bool)
    (HG : okP rd k1 nm1 tx1 n1 m1 ∧ okP rd k2 nm2 tx2 n2 m2 → DoesU w ga #[.agg #[.int .u8 k1, .string nm1, .string tx1, .int .i64 n1, .int .i64 m1], .agg #[.int .u8 k2, .string nm2, .string tx2, .int .i64 n2, .int .i64 m2]] (.tuple #[.agg #[.int .u8 rk, .string rn, .string rt, .int .i64 ri, .int .i64 rm], .bool t])) :
    DoesU w 11 #[.int .u8 k, .agg #[.int .u8 k1, .string nm1, .string tx1, .int .i64 n1, .int .i64 m1], .agg #[.int .u8 k2, .string nm2, .string tx2, .int .i64 n2, .int .i64 m2]] (if okP rd k1 nm1 tx1 n1 m1 ∧ okP rd k2 nm2 tx2 n2 m2 then (if t then .tuple #[.agg #[.int .u8 rk, .string rn, .string rt, .int .i64 ri, .int .i64 rm], .int .i64 0] else .tuple #[.agg #[.int .u8 0, .string ⟨#[]⟩, .string ⟨#[]⟩, .int .i64 0, .int .i64 0], .int .i64 20]) else .tuple #[.agg #[.int .u8 0, .string ⟨#[]⟩, .string ⟨#[]⟩, .int .i64 0, .int .i64 0], .int .i64 160]) := fun W hW => by
  by_cases h : okP rd k1 nm1 tx1 n1 m1 ∧ okP rd k2 nm2 tx2 n2 m2
  · rw [if_pos h]
    have HG := HG h
    obtain ⟨⟨e1, rfl, rfl⟩, ⟨e2, rfl, rfl⟩⟩ := h
    cases t with
    | true =>
      rw [if_pos rfl]
      exact sadd_go k k1 ⟨#[]⟩ tx1 n1 0 k2 ⟨#[]⟩ tx2 n2 0 rk rn rt ri rm W (Lib.hid fun W' hW' => (HK.below hW W' hW').mono fun e w' ⟨⟨cap, he, hp⟩, hb⟩ => ⟨⟨g, cap, c, ga, l, he, Lib.hid hc, Lib.hid eg, (Lib.hid (by have := hp k1 ⟨#[]⟩ tx1 n1 0 B1.1.1 B1.1.2 B1.2.1 B1.2.2.1 B1.2.2.2; rw [e1] at this; exact this)), (Lib.hid (by have := hp k2 ⟨#[]⟩ tx2 n2 0 B2.1.1 B2.1.2 B2.2.1 B2.2.2.1 B2.2.2.2; rw [e2] at this; exact this)), Lib.hid (((HG.below hW).below hW').below hb)⟩, hb⟩)
    | false =>
      rw [if_neg Bool.false_ne_true]
      exact sadd_over k k1 ⟨#[]⟩ tx1 n1 0 k2 ⟨#[]⟩ tx2 n2 0 rk rn rt ri rm W (Lib.hid fun W' hW' => (HK.below hW W' hW').mono fun e w' ⟨⟨cap, he, hp⟩, hb⟩ => ⟨⟨g, cap, c, ga, l, he, Lib.hid hc, Lib.hid eg, (Lib.hid (by have := hp k1 ⟨#[]⟩ tx1 n1 0 B1.1.1 B1.1.2 B1.2.1 B1.2.2.1 B1.2.2.2; rw [e1] at this; exact this)), (Lib.hid (by have := hp k2 ⟨#[]⟩ tx2 n2 0 B2.1.1 B2.1.2 B2.2.1 B2.2.2.1 B2.2.2.2; rw [e2] at this; exact this)), Lib.hid (((HG.below hW).below hW').below hb)⟩, hb⟩)
  · rw [if_neg h]
    exact sadd_bad k k1 nm1 tx1 n1 m1 k2 nm2 tx2 n2 m2 rd W (Lib.hid h) (Lib.hid B1) (Lib.hid B2) (Lib.hid fun W' hW' => (HK.below hW W' hW').mono fun e w' ⟨⟨cap, he, hp⟩, hb⟩ => ⟨⟨g, cap, c, ga, l, he, Lib.hid hc, Lib.hid hp⟩, hb⟩)
theorem plainR_true (rd : RdV) (k : Int) (tx : ByteArray) (n m : Int) (h : (plainR rd k tx n m).2.2.2 = true) : plainR rd k tx n m = rd k tx n := by
  unfold plainR at h ⊢
  by_cases c : m = 0 ∧ (if k = 3 then n = 0 else tx.toList = [])
  · rw [if_pos c]
  · rw [if_neg c] at h; exact absurd h (by simp)
theorem okP_rd (rd : RdV) (k : Int) (nm tx : ByteArray) (n m : Int) (h : okP rd k nm tx n m) : rd k tx n = (k, tx, n, true) := by
  have := plainR_true rd k tx n m (by rw [h.1])
  rw [← this]; exact h.1
theorem okP_num (k : Int) (nm tx : ByteArray) (n m : Int) (h : okP numR k nm tx n m) : -2147483648 ≤ n ∧ n ≤ 2147483647 := by
  have e := congrArg (fun x : Int × ByteArray × Int × Bool => x.2.2.2) (okP_rd _ _ _ _ _ _ h)
  simp only [numR, Bool.and_eq_true, decide_eq_true_eq] at e
  exact e.2
theorem add_1 (w : World) (hE : EnvS w) (k1 : Int) (nm1 tx1 : ByteArray) (n1 m1 : Int) (k2 : Int) (nm2 tx2 : ByteArray) (n2 m2 : Int) (B1 : (0 ≤ k1 ∧ k1 ≤ 255) ∧ tx1.size ≤ 1000000 ∧ R n1 ∧ R m1) (B2 : (0 ≤ k2 ∧ k2 ≤ 255) ∧ tx2.size ≤ 1000000 ∧ R n2 ∧ R m2) : DoesU w 11 #[.int .u8 1, .agg #[.int .u8 k1, .string nm1, .string tx1, .int .i64 n1, .int .i64 m1], .agg #[.int .u8 k2, .string nm2, .string tx2, .int .i64 n2, .int .i64 m2]] (if okP numR k1 nm1 tx1 n1 m1 ∧ okP numR k2 nm2 tx2 n2 m2 then (if decide (-2147483648 ≤ n1 + n2 ∧ n1 + n2 ≤ 2147483647) then .tuple #[.agg #[.int .u8 2, .string ⟨#[]⟩, .string ⟨#[]⟩, .int .i64 (n1 + n2), .int .i64 0], .int .i64 0] else .tuple #[.agg #[.int .u8 0, .string ⟨#[]⟩, .string ⟨#[]⟩, .int .i64 0, .int .i64 0], .int .i64 20]) else .tuple #[.agg #[.int .u8 0, .string ⟨#[]⟩, .string ⟨#[]⟩, .int .i64 0, .int .i64 0], .int .i64 160]) :=
  addKo w 1 _ _ _ _ _ (kindc_1 w hE) rfl ent_ints' k1 nm1 tx1 n1 m1 k2 nm2 tx2 n2 m2 B1 B2 _ _ _ _ _ _ (fun h W _ => ints_any k1 k2 nm1 tx1 nm2 tx2 n1 m1 n2 m2 (okP_num _ _ _ _ _ h.1) (okP_num _ _ _ _ _ h.2) W)
theorem addM_Rx (a s b t : Int) : R (addM a s b t) ∧ R (addS a s b t) := by
  unfold addM addS
  cases h : addOk a s b t with
  | false => simp only [Bool.false_eq_true, if_false]; unfold R; omega
  | true =>
    simp only [if_true]
    unfold addOk at h
    simp only [Bool.and_eq_true] at h
    have := norm_le 18 (scl a s + scl b t)
    refine ⟨(inR_iff _).1 h.2, ?_⟩
    unfold sumN R; omega
/-- The sum of two texts of money: the text, and whether it is one. -/
def monM (a b : ByteArray) : Int := addM (pM a.data.toList) (pS a.data.toList) (pM b.data.toList) (pS b.data.toList)
def monS (a b : ByteArray) : Int := addS (pM a.data.toList) (pS a.data.toList) (pM b.data.toList) (pS b.data.toList)
def monE (a b : ByteArray) : Int := addE (pM a.data.toList) (pS a.data.toList) (pM b.data.toList) (pS b.data.toList)
def sumV (a b : ByteArray) : Int × ByteArray × Bool := if monE a b = 0 then (3, ⟨(tx (monM a b) (monS a b)).toArray⟩, true) else (0, ⟨#[]⟩, false)
theorem sums_c (k1 k2 : Int) (nm1 tx1 nm2 tx2 : ByteArray) (n1 m1 n2 m2 : Int) (h1 : tx1.size ≤ 1000000) (h2 : tx2.size ≤ 1000000) (w : World) (hE : EnvS w) :
    DoesU w 38 #[.agg #[.int .u8 k1, .string nm1, .string tx1, .int .i64 n1, .int .i64 m1], .agg #[.int .u8 k2, .string nm2, .string tx2, .int .i64 n2, .int .i64 m2]] (.tuple #[.agg #[.int .u8 (sumV tx1 tx2).1, .string ⟨#[]⟩, .string (sumV tx1 tx2).2.1, .int .i64 0, .int .i64 0], .bool (sumV tx1 tx2).2.2]) := fun W hW => by
  have P1 := Lib.hid (mparse_d tx1 h1 W (hE.below hW).r)
  have P2 := Lib.hid (mparse_d tx2 h2 W (hE.below hW).r)
  have P3 : Hid (DoesU W 58 #[.agg #[.int .i64 (pM tx1.data.toList), .int .i64 (pS tx1.data.toList)], .agg #[.int .i64 (pM tx2.data.toList), .int .i64 (pS tx2.data.toList)]] (.tuple #[.agg #[.int .i64 (monM tx1 tx2), .int .i64 (monS tx1 tx2)], .int .i64 (monE tx1 tx2)])) := Lib.hid fun W' _ => madd_any _ _ _ _ (pM_Rs _).1 (pM_Rs _).2 (pM_Rs _).1 (pM_Rs _).2 W'
  unfold sumV
  by_cases h : monE tx1 tx2 = 0
  · rw [if_pos h]
    rw [h] at P3
    exact sums_go k1 k2 nm1 tx1 nm2 tx2 n1 m1 n2 m2 _ _ _ _ _ _ _ _ _ _ W P1 P2 P3 (Lib.hid (mtext_d _ _ (addM_Rx _ _ _ _).1 (addM_Rx _ _ _ _).2 W (hE.below hW).r))
  · rw [if_neg h]
    exact sums_no k1 k2 nm1 tx1 nm2 tx2 n1 m1 n2 m2 _ _ _ _ _ _ _ _ _ W (by simpa using h) P1 P2 P3
theorem add_7 (w : World) (hE : EnvS w) (k1 : Int) (nm1 tx1 : ByteArray) (n1 m1 : Int) (k2 : Int) (nm2 tx2 : ByteArray) (n2 m2 : Int) (B1 : (0 ≤ k1 ∧ k1 ≤ 255) ∧ tx1.size ≤ 1000000 ∧ R n1 ∧ R m1) (B2 : (0 ≤ k2 ∧ k2 ≤ 255) ∧ tx2.size ≤ 1000000 ∧ R n2 ∧ R m2) : DoesU w 11 #[.int .u8 7, .agg #[.int .u8 k1, .string nm1, .string tx1, .int .i64 n1, .int .i64 m1], .agg #[.int .u8 k2, .string nm2, .string tx2, .int .i64 n2, .int .i64 m2]] (if okP (digsR (toldR decC)) k1 nm1 tx1 n1 m1 ∧ okP (digsR (toldR decC)) k2 nm2 tx2 n2 m2 then (if (sumV tx1 tx2).2.2 then .tuple #[.agg #[.int .u8 (sumV tx1 tx2).1, .string ⟨#[]⟩, .string (sumV tx1 tx2).2.1, .int .i64 0, .int .i64 0], .int .i64 0] else .tuple #[.agg #[.int .u8 0, .string ⟨#[]⟩, .string ⟨#[]⟩, .int .i64 0, .int .i64 0], .int .i64 20]) else .tuple #[.agg #[.int .u8 0, .string ⟨#[]⟩, .string ⟨#[]⟩, .int .i64 0, .int .i64 0], .int .i64 160]) :=
  addKo w 7 _ _ _ _ _ (kindc_7 w hE) rfl ent_sums' k1 nm1 tx1 n1 m1 k2 nm2 tx2 n2 m2 B1 B2 _ _ _ _ _ _ (fun _ => sums_c k1 k2 nm1 tx1 nm2 tx2 n1 m1 n2 m2 B1.2.1 B2.2.1 w hE)
end Go.Proofs.YtjhgiojmlkeccaaGreatDoor
namespace Go.Proofs.YtjhgiojmlkeccaaGreatDoor
open Go.RowKit Go.Shelf
structure OrdL (P : ByteArray → Prop) (r : ByteArray → ByteArray → Int) : Prop where
  turn : ∀ a b, P a → P b → r b a = -r a b
  same : ∀ a b, P a → P b → (r a b = 0 ↔ a = b)
  thru : ∀ a b c, P a → P b → P c → r a b ≤ 0 → r b c ≤ 0 → r a c = min (r a b) (r b c)
theorem bl_irr : ∀ l : List UInt8, Op.bytesLess l l = false
  | [] => rfl
  | a :: l => by unfold Op.bytesLess; simp [bl_irr l]
theorem bl_tri : ∀ l m : List UInt8, Op.bytesLess l m = true ∨ l = m ∨ Op.bytesLess m l = true
  | [], [] => .inr (.inl rfl)
  | [], b :: m => .inl (by unfold Op.bytesLess; rfl)
  | a :: l, [] => .inr (.inr (by unfold Op.bytesLess; rfl))
  | a :: l, b :: m => by
    rcases bl_tri l m with h | h | h <;> rcases Nat.lt_trichotomy a.toNat b.toNat with q | q | q <;> simp [Op.bytesLess, UInt8.lt_iff_toNat_lt, ← UInt8.toNat_inj, h, q] <;> omega
theorem bl_trans : ∀ l m n : List UInt8, Op.bytesLess l m = true → Op.bytesLess m n = true → Op.bytesLess l n = true
  | [], [], n, h, _ => by simp [Op.bytesLess] at h
  | [], b :: m, [], _, h => by simp [Op.bytesLess] at h
  | [], b :: m, c :: n, _, _ => by simp [Op.bytesLess]
  | a :: l, [], n, h, _ => by simp [Op.bytesLess] at h
  | a :: l, b :: m, [], _, h => by simp [Op.bytesLess] at h
  | a :: l, b :: m, c :: n, h1, h2 => by
    have ih := bl_trans l m n
    simp only [Op.bytesLess, UInt8.lt_iff_toNat_lt, ← UInt8.toNat_inj, Bool.or_eq_true, Bool.and_eq_true, decide_eq_true_eq, beq_iff_eq] at h1 h2 ⊢
    rcases h1 with h1 | ⟨h1, h1'⟩ <;> rcases h2 with h2 | ⟨h2, h2'⟩
    · left; omega
    · left; omega
    · left; omega
    · right; exact ⟨by omega, ih h1' h2'⟩
theorem ordB_val (a b : ByteArray) : (ordB a b = -1 ∧ Op.bytesLess a.toList b.toList = true) ∨ (ordB a b = 0 ∧ a = b) ∨ (ordB a b = 1 ∧ Op.bytesLess b.toList a.toList = true) := by
  unfold ordB
  rcases bl_tri a.toList b.toList with h | h | h
  · left; rw [if_pos h]; exact ⟨rfl, h⟩
  · right; left
    have := toL_inj h
    subst this
    rw [bl_irr]; simp
  · right; right
    have h1 : Op.bytesLess a.toList b.toList = false := by
      rw [Bool.eq_false_iff]; intro q
      have := bl_trans _ _ _ q h
      rw [bl_irr] at this; exact absurd this (by decide)
    have h2 : (a.toList == b.toList) = false := by
      rw [Bool.eq_false_iff]; intro q
      have q := eq_of_beq q
      rw [q, bl_irr] at h; exact absurd h (by decide)
    rw [h1, h2]; simp [h]
theorem ordB_l (P : ByteArray → Prop) : OrdL P ordB where
  turn a b _ _ := by
    rcases ordB_val a b with ⟨e, h⟩ | ⟨e, h⟩ | ⟨e, h⟩ <;> rcases ordB_val b a with ⟨e', h'⟩ | ⟨e', h'⟩ | ⟨e', h'⟩ <;> rw [e, e'] <;> first
      | rfl
      | (exfalso; first | (have := bl_trans _ _ _ h h'; rw [bl_irr] at this; exact absurd this (by decide)) | (subst h; rw [bl_irr] at h'; exact absurd h' (by decide)) | (subst h'; rw [bl_irr] at h; exact absurd h (by decide)))
  same a b _ _ := by
    rcases ordB_val a b with ⟨e, h⟩ | ⟨e, h⟩ | ⟨e, h⟩ <;> rw [e]
    · constructor
      · intro q; omega
      · rintro rfl; rw [bl_irr] at h; exact absurd h (by decide)
    · exact ⟨fun _ => h, fun _ => rfl⟩
    · constructor
      · intro q; omega
      · rintro rfl; rw [bl_irr] at h; exact absurd h (by decide)
  thru a b c _ _ _ h1 h2 := by
    rcases ordB_val a b with ⟨e, h⟩ | ⟨e, h⟩ | ⟨e, h⟩
    · rcases ordB_val b c with ⟨e', h'⟩ | ⟨e', h'⟩ | ⟨e', h'⟩
      · have := bl_trans _ _ _ h h'
        rw [e, e']; unfold ordB; rw [if_pos this]; rfl
      · subst h'; rw [e, e']; rfl
      · omega
    · subst h
      rcases ordB_val a c with ⟨e', h'⟩ | ⟨e', h'⟩ | ⟨e', h'⟩ <;> rw [e, e'] <;> first | rfl | omega
    · omega
end Go.Proofs.YtjhgiojmlkeccaaGreatDoor
namespace Go.Proofs.YtjhgiojmlkeccaaGreatDoor
open Go.RowKit Go.Shelf
theorem orI_val (x y : Int) : (x = 0 ∧ orI x y = y) ∨ (x ≠ 0 ∧ orI x y = x) := by
  unfold orI
  by_cases h : x = 0
  · left; rw [if_pos h]; exact ⟨h, rfl⟩
  · right; rw [if_neg h]; exact ⟨h, rfl⟩
theorem orI_0 (y : Int) : orI 0 y = y := rfl
theorem orI_m (y : Int) : orI (-1) y = -1 := rfl
theorem orI_1 (y : Int) : orI 1 y = 1 := rfl
theorem lex_thru (s1 s2 s3 n1 n2 n3 : Int) (h1 : orI (cmpI s1 s2) (cmpI n1 n2) ≤ 0) (h2 : orI (cmpI s2 s3) (cmpI n2 n3) ≤ 0) : orI (cmpI s1 s3) (cmpI n1 n3) = min (orI (cmpI s1 s2) (cmpI n1 n2)) (orI (cmpI s2 s3) (cmpI n2 n3)) := by
  have ht := cmpI_trans n1 n2 n3
  have v1 := cmpI_val n1 n2
  have v2 := cmpI_val n2 n3
  generalize cmpI n1 n2 = p at *
  generalize cmpI n2 n3 = q at *
  generalize cmpI n1 n3 = r at *
  rcases cmpI_val s1 s2 with ⟨x, lx⟩ | ⟨x, lx⟩ | ⟨x, lx⟩ <;> rcases cmpI_val s2 s3 with ⟨y, ly⟩ | ⟨y, ly⟩ | ⟨y, ly⟩ <;> rcases cmpI_val s1 s3 with ⟨z, lz⟩ | ⟨z, lz⟩ | ⟨z, lz⟩ <;> rw [x] at h1 ⊢ <;> rw [y] at h2 ⊢ <;> rw [z] <;> simp only [orI_0, orI_m, orI_1] at h1 h2 ⊢ <;> first
    | omega
    | exact ht h1 h2
theorem dayC_ok {a : ByteArray} (h : dayC a = (a, 0)) : (dParse a.data.toList).2.2 = 0 := by
  have e := congrArg (fun x : ByteArray × Int => x.2) h
  unfold dayC at e
  by_cases q : (dParse a.data.toList).2.2 = 0
  · exact q
  · simp only [if_neg q] at e; exact absurd e q
theorem dayC_txt {a : ByteArray} (h : dayC a = (a, 0)) : a = ⟨(dText (dParse a.data.toList).1 (dParse a.data.toList).2.1).1.toArray⟩ := by
  have e := congrArg (fun x : ByteArray × Int => x.1) h
  unfold dayC at e
  rw [if_pos (dayC_ok h)] at e
  exact e.symm
theorem dayO_l : OrdL (fun a => dayC a = (a, 0)) dayO where
  turn a b _ _ := by
    unfold dayO
    rw [cmpI_neg (dParse a.data.toList).1, cmpI_neg (dParse a.data.toList).2.1]
    rcases orI_val (cmpI (dParse a.data.toList).1 (dParse b.data.toList).1) (cmpI (dParse a.data.toList).2.1 (dParse b.data.toList).2.1) with ⟨h, e⟩ | ⟨h, e⟩ <;> rcases orI_val (-cmpI (dParse a.data.toList).1 (dParse b.data.toList).1) (-cmpI (dParse a.data.toList).2.1 (dParse b.data.toList).2.1) with ⟨h', e'⟩ | ⟨h', e'⟩ <;> rw [e, e'] <;> omega
  same a b ha hb := by
    constructor
    · intro h
      unfold dayO at h
      rcases orI_val (cmpI (dParse a.data.toList).1 (dParse b.data.toList).1) (cmpI (dParse a.data.toList).2.1 (dParse b.data.toList).2.1) with ⟨q, e⟩ | ⟨q, e⟩
      · rw [e] at h
        have h1 := (cmpI_zero _ _).1 q
        have h2 := (cmpI_zero _ _).1 h
        rw [dayC_txt ha, dayC_txt hb, h1, h2]
      · omega
    · rintro rfl
      unfold dayO orI
      rw [if_pos ((cmpI_zero _ _).2 rfl)]
      exact (cmpI_zero _ _).2 rfl
  thru a b c _ _ _ h1 h2 := lex_thru _ _ _ _ _ _ h1 h2
theorem decC_ok {a : ByteArray} (h : decC a = (a, 0)) : pE a.data.toList = 0 := by
  have e := congrArg (fun x : ByteArray × Int => x.2) h
  unfold decC at e
  by_cases q : pE a.data.toList = 0
  · exact q
  · simp only [if_neg q] at e; exact absurd e q
theorem decC_txt {a : ByteArray} (h : decC a = (a, 0)) : a = ⟨(tx (pM a.data.toList) (pS a.data.toList)).toArray⟩ := by
  have e := congrArg (fun x : ByteArray × Int => x.1) h
  unfold decC at e
  rw [if_pos (decC_ok h)] at e
  exact e.symm
theorem decC_may {a : ByteArray} (h : decC a = (a, 0)) : may (pM a.data.toList) (pS a.data.toList) = true := by
  have e := decC_ok h
  cases q : parseOk a.data.toList with
  | true => exact (parse_may _ q).1
  | false =>
    have := (p_bad _ q).2.2
    omega
theorem monO_ok {a b : ByteArray} (ha : decC a = (a, 0)) (hb : decC b = (b, 0)) : monO a b = cmpI (scl (pM a.data.toList) (pS a.data.toList)) (scl (pM b.data.toList) (pS b.data.toList)) := by
  unfold monO cmpV
  rw [decC_may ha, decC_may hb]; rfl
theorem monO_l : OrdL (fun a => decC a = (a, 0)) monO where
  turn a b ha hb := by
    rw [monO_ok ha hb, monO_ok hb ha]; exact cmpI_neg _ _
  same a b ha hb := by
    rw [monO_ok ha hb, cmpI_zero]
    constructor
    · intro h
      obtain ⟨e1, e2⟩ := scl_inj (decC_may ha) (decC_may hb) h
      rw [decC_txt ha, decC_txt hb, e1, e2]
    · rintro rfl; rfl
  thru a b c ha hb hc h1 h2 := by
    rw [monO_ok ha hb] at h1 ⊢
    rw [monO_ok hb hc] at h2 ⊢
    rw [monO_ok ha hc]
    exact cmpI_trans _ _ _ h1 h2
end Go.Proofs.YtjhgiojmlkeccaaGreatDoor
namespace Go.Proofs.YtjhgiojmlkeccaaGreatDoor
open Go.RowKit Go.Shelf
/-- A cell's five fields. -/
structure Cl where
  k : Int
  nm : ByteArray
  tx : ByteArray
  n : Int
  m : Int
def okC (rd : RdV) (a : Cl) : Prop := okP rd a.k a.nm a.tx a.n a.m
instance (rd : RdV) (a : Cl) : Decidable (okC rd a) := by unfold okC; exact inferInstance
structure OrdC (ok : Cl → Prop) (r : Cl → Cl → Int) : Prop where
  turn : ∀ a b, ok a → ok b → r b a = -r a b
  same : ∀ a b, ok a → ok b → (r a b = 0 ↔ a = b)
  thru : ∀ a b c, ok a → ok b → ok c → r a b ≤ 0 → r b c ≤ 0 → r a c = min (r a b) (r b c)
theorem told_ok {cs : ByteArray → ByteArray × Int} {k : Int} {tx : ByteArray} {n : Int} (h : toldR cs k tx n = (k, tx, n, true)) : k = 3 ∧ n = 0 ∧ cs tx = (tx, 0) := by
  unfold toldR at h
  by_cases c : k = 3 ∧ chkE tx.data.toList = 0
  · rw [if_pos c] at h
    have e1 := congrArg (fun x : Int × ByteArray × Int × Bool => x.2.1) h
    have e2 := congrArg (fun x : Int × ByteArray × Int × Bool => x.2.2.1) h
    have e3 := congrArg (fun x : Int × ByteArray × Int × Bool => x.2.2.2) h
    exact ⟨c.1, e2.symm, Prod.ext e1 (eq_of_beq e3)⟩
  · rw [if_neg c] at h
    have e3 := congrArg (fun x : Int × ByteArray × Int × Bool => x.2.2.2) h
    exact absurd e3 (by simp)
theorem digs_ok {cs : ByteArray → ByteArray × Int} {k : Int} {tx : ByteArray} {n : Int} (h : digsR (toldR cs) k tx n = (k, tx, n, true)) : k = 3 ∧ n = 0 ∧ cs tx = (tx, 0) := by
  unfold digsR at h
  by_cases c : k = 2
  · rw [if_pos c] at h
    have e1 := congrArg (fun x : Int × ByteArray × Int × Bool => x.1) h
    exact absurd (e1.trans c) (by simp)
  · rw [if_neg c] at h; exact told_ok h
theorem num_ok {a : Cl} (h : okC numR a) : a = ⟨2, ⟨#[]⟩, ⟨#[]⟩, a.n, 0⟩ := by
  obtain ⟨k, nm, tx, n, m⟩ := a
  have hr := okP_rd _ _ _ _ _ _ h
  obtain ⟨hp, e1, e2⟩ := h
  dsimp only at *
  subst e1; subst e2
  have e3 := congrArg (fun x : Int × ByteArray × Int × Bool => x.2.2.2) hr
  simp only [numR, Bool.and_eq_true, beq_iff_eq] at e3
  have hk := e3.1
  subst hk
  unfold plainR at hp
  by_cases c : (0 : Int) = 0 ∧ (if (2 : Int) = 3 then n = 0 else tx.toList = [])
  · have c2 := c.2
    rw [if_neg (by decide)] at c2
    have : tx = ⟨#[]⟩ := toL_inj (by rw [c2]; rw [ByteArray.toList_eq])
    rw [this]
  · rw [if_neg c] at hp
    exact absurd (congrArg (fun x : Int × ByteArray × Int × Bool => x.2.2.2) hp) (by simp)
theorem num_ordC : OrdC (okC numR) (fun a b => cmpI a.n b.n) where
  turn a b _ _ := cmpI_neg _ _
  same a b ha hb := by
    rw [cmpI_zero]
    constructor
    · intro h; rw [num_ok ha, num_ok hb, h]
    · rintro rfl; rfl
  thru a b c _ _ _ h1 h2 := cmpI_trans _ _ _ h1 h2
theorem txt_ordC (rd : RdV) (cs : ByteArray → ByteArray × Int) (r : ByteArray → ByteArray → Int) (HL : OrdL (fun a => cs a = (a, 0)) r) (HK : ∀ {k : Int} {tx : ByteArray} {n : Int}, rd k tx n = (k, tx, n, true) → k = 3 ∧ n = 0 ∧ cs tx = (tx, 0)) : OrdC (okC rd) (fun a b => r a.tx b.tx) where
  turn a b ha hb := HL.turn _ _ (HK (okP_rd _ _ _ _ _ _ ha)).2.2 (HK (okP_rd _ _ _ _ _ _ hb)).2.2
  same a b ha hb := by
    have xa := HK (okP_rd _ _ _ _ _ _ ha)
    have xb := HK (okP_rd _ _ _ _ _ _ hb)
    have := HL.same _ _ xa.2.2 xb.2.2
    rw [this]
    constructor
    · intro h
      obtain ⟨k, nm, tx, n, m⟩ := a
      obtain ⟨k', nm', tx', n', m'⟩ := b
      obtain ⟨_, e1, e2⟩ := ha
      obtain ⟨_, e1', e2'⟩ := hb
      dsimp only at *
      rw [xa.1, xb.1, xa.2.1, xb.2.1, e1, e2, e1', e2', h]
    · rintro rfl; rfl
  thru a b c ha hb hc := HL.thru _ _ _ (HK (okP_rd _ _ _ _ _ _ ha)).2.2 (HK (okP_rd _ _ _ _ _ _ hb)).2.2 (HK (okP_rd _ _ _ _ _ _ hc)).2.2
theorem ord_1 : OrdC (okC numR) (fun a b => cmpI a.n b.n) := num_ordC
theorem ord_2 : OrdC (okC (toldR sameC)) (fun a b => ordB a.tx b.tx) := txt_ordC _ sameC _ (ordB_l _) told_ok
theorem ord_4 : OrdC (okC (digsR (toldR someC))) (fun a b => ordB a.tx b.tx) := txt_ordC _ someC _ (ordB_l _) digs_ok
theorem ord_5 : OrdC (okC (toldR dayC)) (fun a b => dayO a.tx b.tx) := txt_ordC _ dayC _ dayO_l told_ok
theorem ord_6 : OrdC (okC (toldR uuC)) (fun a b => ordB a.tx b.tx) := txt_ordC _ uuC _ (ordB_l _) told_ok
theorem ord_7 : OrdC (okC (digsR (toldR decC))) (fun a b => monO a.tx b.tx) := txt_ordC _ decC _ monO_l digs_ok
/-- What Compare gives, and what the law asks of it. -/
def cV (rd : RdV) (r : Cl → Cl → Int) (a b : Cl) : Int := if okC rd a ∧ okC rd b then r a b else 0
def cE (rd : RdV) (a b : Cl) : Int := if okC rd a ∧ okC rd b then 0 else 160
theorem cE_comm (rd : RdV) (a b : Cl) : cE rd b a = cE rd a b := by unfold cE; simp only [and_comm]
theorem cE_0 {rd : RdV} {a b : Cl} (h : cE rd a b = 0) : okC rd a ∧ okC rd b := by
  unfold cE at h
  by_cases c : okC rd a ∧ okC rd b
  · exact c
  · rw [if_neg c] at h; exact absurd h (by decide)
theorem cV_neg {rd : RdV} {r : Cl → Cl → Int} (H : OrdC (okC rd) r) (a b : Cl) : cV rd r b a = -cV rd r a b := by
  unfold cV
  by_cases c : okC rd a ∧ okC rd b
  · rw [if_pos c, if_pos ⟨c.2, c.1⟩]; exact H.turn a b c.1 c.2
  · rw [if_neg c, if_neg (fun q => c ⟨q.2, q.1⟩)]; rfl
theorem cV_zero {rd : RdV} {r : Cl → Cl → Int} (H : OrdC (okC rd) r) (a b : Cl) (h : cE rd a b = 0) : cV rd r a b = 0 ↔ a = b := by
  have c := cE_0 h
  unfold cV
  rw [if_pos c]; exact H.same a b c.1 c.2
theorem cV_thru {rd : RdV} {r : Cl → Cl → Int} (H : OrdC (okC rd) r) (a b c : Cl) (h : cE rd a b = 0) (h' : cE rd b c = 0) (h1 : cV rd r a b ≤ 0) (h2 : cV rd r b c ≤ 0) : cV rd r a c = min (cV rd r a b) (cV rd r b c) := by
  have x := cE_0 h
  have y := cE_0 h'
  unfold cV at *
  rw [if_pos x] at h1 ⊢
  rw [if_pos y] at h2 ⊢
  rw [if_pos ⟨x.1, y.2⟩]
  exact H.thru a b c x.1 x.2 y.2 h1 h2
end Go.Proofs.YtjhgiojmlkeccaaGreatDoor
namespace Go.Proofs.YtjhgiojmlkeccaaGreatDoor
open Go.RowKit Go.Shelf
def cellV (a : Cl) : Value := .agg #[.int .u8 a.k, .string a.nm, .string a.tx, .int .i64 a.n, .int .i64 a.m]
def BdC (a : Cl) : Prop := (0 ≤ a.k ∧ a.k ≤ 255) ∧ a.tx.size ≤ 1000000 ∧ R a.n ∧ R a.m
structure CmpL (w : World) (k : Int) (V E : Cl → Cl → Int) : Prop where
  does : ∀ a b, BdC a → BdC b → DoesU w 10 #[.int .u8 k, cellV a, cellV b] (.tuple #[.int .i64 (V a b), .int .i64 (E a b)])
  bd : ∀ a b, -1 ≤ V a b ∧ V a b ≤ 1
  eb : ∀ a b, 0 ≤ E a b ∧ E a b ≤ 160
  comm : ∀ a b, E b a = E a b
  neg : ∀ a b, V b a = -V a b
  zero : ∀ a b, E a b = 0 → (V a b = 0 ↔ a = b)
  thru : ∀ a b c, E a b = 0 → E b c = 0 → V a b ≤ 0 → V b c ≤ 0 → V a c = min (V a b) (V b c)
theorem cmpI_bd (a b : Int) : -1 ≤ cmpI a b ∧ cmpI a b ≤ 1 := by rcases cmpI_val a b with ⟨h, _⟩ | ⟨h, _⟩ | ⟨h, _⟩ <;> omega
theorem ordB_bd (a b : ByteArray) : -1 ≤ ordB a b ∧ ordB a b ≤ 1 := by rcases ordB_val a b with ⟨h, _⟩ | ⟨h, _⟩ | ⟨h, _⟩ <;> omega
theorem dayO_bd (a b : ByteArray) : -1 ≤ dayO a b ∧ dayO a b ≤ 1 := by
  unfold dayO
  rcases orI_val (cmpI (dParse a.data.toList).1 (dParse b.data.toList).1) (cmpI (dParse a.data.toList).2.1 (dParse b.data.toList).2.1) with ⟨h, e⟩ | ⟨h, e⟩ <;> rw [e]
  · exact cmpI_bd _ _
  · exact cmpI_bd _ _
theorem monO_bd (a b : ByteArray) : -1 ≤ monO a b ∧ monO a b ≤ 1 := by
  unfold monO cmpV
  split
  · exact cmpI_bd _ _
  · omega
theorem cV_bd {rd : RdV} {r : Cl → Cl → Int} (h : ∀ a b, -1 ≤ r a b ∧ r a b ≤ 1) (a b : Cl) : -1 ≤ cV rd r a b ∧ cV rd r a b ≤ 1 := by
  unfold cV
  split
  · exact h a b
  · omega
theorem cE_bd (rd : RdV) (a b : Cl) : 0 ≤ cE rd a b ∧ cE rd a b ≤ 160 := by
  unfold cE
  split <;> omega
theorem cmpL_of (w : World) (k : Int) (rd : RdV) (r : Cl → Cl → Int) (H : OrdC (okC rd) r) (hb : ∀ a b, -1 ≤ r a b ∧ r a b ≤ 1) (HD : ∀ a b, BdC a → BdC b → DoesU w 10 #[.int .u8 k, cellV a, cellV b] (.tuple #[.int .i64 (cV rd r a b), .int .i64 (cE rd a b)])) : CmpL w k (cV rd r) (cE rd) :=
  ⟨HD, cV_bd hb, cE_bd rd, cE_comm rd, cV_neg H, cV_zero H, cV_thru H⟩
theorem cmpL_none (w : World) (k e : Int) (h : 0 < e) (h' : e ≤ 160) (HD : ∀ a b, BdC a → BdC b → DoesU w 10 #[.int .u8 k, cellV a, cellV b] (.tuple #[.int .i64 0, .int .i64 e])) : CmpL w k (fun _ _ => 0) (fun _ _ => e) :=
  ⟨HD, fun _ _ => by omega, fun _ _ => by omega, fun _ _ => rfl, fun _ _ => rfl, fun _ _ q => by omega, fun _ _ _ q => by omega⟩
theorem cmp_all (w : World) (hE : EnvS w) (k : Int) (h0 : 0 ≤ k) (h1 : k ≤ 255) : ∃ V E, CmpL w k V E := by
  by_cases c0 : k = 0
  · subst c0; exact ⟨_, _, cmpL_none w 0 2 (by decide) (by decide) fun a b _ _ => cmp_low w _ _ _ _ _ _ _ _ _ _⟩
  by_cases c1 : k = 1
  · subst c1; exact ⟨_, _, cmpL_of w 1 _ _ ord_1 (fun _ _ => cmpI_bd _ _) fun a b ha hb => cmp_1 w hE _ _ _ _ _ _ _ _ _ _ ha hb⟩
  by_cases c2 : k = 2
  · subst c2; exact ⟨_, _, cmpL_of w 2 _ _ ord_2 (fun _ _ => ordB_bd _ _) fun a b ha hb => cmp_2 w hE _ _ _ _ _ _ _ _ _ _ ha hb⟩
  by_cases c3 : k = 3
  · subst c3; exact ⟨_, _, cmpL_none w 3 6 (by decide) (by decide) fun a b _ _ => cmp_3 w _ _ _ _ _ _ _ _ _ _ hE⟩
  by_cases c4 : k = 4
  · subst c4; exact ⟨_, _, cmpL_of w 4 _ _ ord_4 (fun _ _ => ordB_bd _ _) fun a b ha hb => cmp_4 w hE _ _ _ _ _ _ _ _ _ _ ha hb⟩
  by_cases c5 : k = 5
  · subst c5; exact ⟨_, _, cmpL_of w 5 _ _ ord_5 (fun _ _ => dayO_bd _ _) fun a b ha hb => cmp_5 w hE _ _ _ _ _ _ _ _ _ _ ha hb⟩
  by_cases c6 : k = 6
  · subst c6; exact ⟨_, _, cmpL_of w 6 _ _ ord_6 (fun _ _ => ordB_bd _ _) fun a b ha hb => cmp_6 w hE _ _ _ _ _ _ _ _ _ _ ha hb⟩
  by_cases c7 : k = 7
  · subst c7; exact ⟨_, _, cmpL_of w 7 _ _ ord_7 (fun _ _ => monO_bd _ _) fun a b ha hb => cmp_7 w hE _ _ _ _ _ _ _ _ _ _ ha hb⟩
  by_cases c8 : k = 8
  · subst c8; exact ⟨_, _, cmpL_none w 8 6 (by decide) (by decide) fun a b _ _ => cmp_8 w _ _ _ _ _ _ _ _ _ _⟩
  · exact ⟨_, _, cmpL_none w k 2 (by decide) (by decide) fun a b _ _ => cmp_high w _ _ _ _ _ _ _ _ _ _ k (by omega) h1⟩
end Go.Proofs.YtjhgiojmlkeccaaGreatDoor
