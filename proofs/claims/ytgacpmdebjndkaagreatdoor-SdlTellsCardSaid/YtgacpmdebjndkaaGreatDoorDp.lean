/- The reference's may, May, Check (sdl). -/
import Derived.Test.YtgacpmdebjndkaaGreatDoorDo
set_option linter.unusedSimpArgs false
set_option linter.unusedVariables false
namespace Go.Proofs.YtgacpmdebjndkaaGreatDoor
open Go.RowKit
/-- A row of names in a cell: what stands there. -/
def NmAt (a : Option Addr) (n : Nat) (N : List (List UInt8)) (w : World) : Prop := n = N.length ∧ ∀ k, (h : k < N.length) → ∃ b off, a = some ⟨b, off, none⟩ ∧ w.cell? ⟨b, off + k, none⟩ = some (.string ⟨N[k].toArray⟩)
theorem nmAt_of {a : Option Addr} {n c : Nat} {N : List (List UInt8)} {w : World} (h : NmsSl (.slice a n c) N w) : NmAt a n N w := by
  refine ⟨slg_len h, fun k hk => ?_⟩
  rcases h with ⟨_, _, e, rfl⟩ | ⟨b, off, _, e, h2, _⟩
  · cases hk
  · injection e with e1 _ _
    exact ⟨b, off, e1, nm_at h2 k hk⟩
def FldAt (a : Option Addr) (n : Nat) (F : List Fld) (w : World) : Prop := n = F.length ∧ (0 < F.length → ∃ b off, a = some ⟨b, off, none⟩ ∧ RowG 5 FldE ⟨b, off, none⟩ F w)
theorem fldAt_of {a : Option Addr} {n c : Nat} {F : List Fld} {w : World} (h : FldSl (.slice a n c) F w) : FldAt a n F w := by
  refine ⟨slg_len h, fun h0 => ?_⟩
  rcases h with ⟨_, _, e, rfl⟩ | ⟨b, off, _, e, h2, _⟩
  · cases h0
  · injection e with e1 _ _
    exact ⟨b, off, e1, h2⟩
theorem enmB_step (s : List UInt8) : enmB s = (nameB s && !wordsK.contains s) := rfl
theorem fldB_step (x : Fld) : fldB x = (nameB x.name && ttB x.tnm x.wr && fixD' x.dirs && x.args.all inpB) := rfl
set_option maxRecDepth 100000 in
set_option maxHeartbeats 16000000 in
theorem rmay_go (kk : Int) (x1 : ByteArray) (xa2 xa3 xa4 xa5 : Option Addr) (xn2 xc2 xn3 xc3 xn4 xc4 xn5 xc5 : Nat) (N : List (List UInt8)) (F : List Fld) (t0 t1 t2 : Bool) (w : World)
    (hln : N.length ≤ 100000) (hlf : F.length ≤ 100000) (HNM : Hid (NmAt xa3 xn3 N w)) (HFD : Hid (FldAt xa5 xn5 F w)) (HNS : Hid (∀ s ∈ N, s.length ≤ 1000000)) (HFS : Hid (∀ f ∈ F, FldSm f))
    (H0 : Hid (∀ W, Below w.heap.size w W → Calls Tryz.prog 70 #[.string x1] W fun e w' => e = .returned (.bool t0) ∧ Below W.heap.size W w'))
    (H1 : Hid (∀ W, Below w.heap.size w W → Calls Tryz.prog 71 #[.slice xa2 xn2 xc2] W fun e w' => e = .returned (.bool t1) ∧ Below W.heap.size W w'))
    (H2 : Hid (∀ W, Below w.heap.size w W → Calls Tryz.prog 72 #[.slice xa4 xn4 xc4] W fun e w' => e = .returned (.bool t2) ∧ Below W.heap.size W w')) :
    Calls Tryz.prog 49 #[.agg #[.int .u8 kk, .string x1, .slice xa2 xn2 xc2, .slice xa3 xn3 xc3, .slice xa4 xn4 xc4, .slice xa5 xn5 xc5]] w fun e w' => e = .returned (.bool (t0 && t1 && t2 && (N.all enmB && (F.all fldB && kindB kk xn3 xn4 xn5)))) ∧ Below w.heap.size w w' := by
  obtain ⟨KB, hkb⟩ : ∃ KB, kindB kk xn3 xn4 xn5 = KB := ⟨_, rfl⟩
  have HKB := Lib.hid hkb
  rw [hkb]
  clear hkb
  obtain ⟨ZF, hzf⟩ : ∃ ZF, (F.all fldB && KB) = ZF := ⟨_, rfl⟩
  have HZF0 : Hid (((F.drop 0).all fldB && KB) = ZF) := Lib.hid hzf
  rw [hzf]
  clear hzf
  obtain ⟨Z, hz⟩ : ∃ Z, (N.all enmB && ZF) = Z := ⟨_, rfl⟩
  have HZ0 : Hid (((N.drop 0).all enmB && ZF) = Z) := Lib.hid hz
  rw [hz]
  clear hz
  have HN3 : Hid (xn3 = N.length) := Lib.hid HNM.out.1
  have HN5 : Hid (xn5 = F.length) := Lib.hid HFD.out.1
  have h3l : xn3 ≤ 100000 := by have := HN3.out; omega
  have h5l : xn5 ≤ 100000 := by have := HN5.out; omega
  clear hln hlf
  go_enter Tryz.func49, Tryz.ntmps49
  go_upto_region 1 with fail
  obtain ⟨w2, hw2⟩ : ∃ w2, w.alloc (.cells #[.int .u8 kk, .string x1, .slice xa2 xn2 xc2, .slice xa3 xn3 xc3, .slice xa4 xn4 xc4, .slice xa5 xn5 xc5] 33 (0, 0)) = w2 := ⟨_, rfl⟩
  have HB2 : Hid (Below w.heap.size w w2) := Lib.hid (by rw [← hw2]; exact (Below.refl _ _).alloc (Nat.le_refl _) _)
  have k1 : w2.heap[w.heap.size]? = some (.cells #[.int .u8 kk, .string x1, .slice xa2 xn2 xc2, .slice xa3 xn3 xc3, .slice xa4 xn4 xc4, .slice xa5 xn5 xc5] 33 (0, 0)) := by rw [← hw2]; exact heap_new _ _ _ rfl
  have MK : Hid (∀ W, Below w2.heap.size w2 W → W.cell? ⟨w.heap.size, 0, none⟩ = some (.int .u8 kk) ∧ W.cell? ⟨w.heap.size, 1, none⟩ = some (.string x1) ∧ W.cell? ⟨w.heap.size, 2, none⟩ = some (.slice xa2 xn2 xc2) ∧ W.cell? ⟨w.heap.size, 3, none⟩ = some (.slice xa3 xn3 xc3) ∧ W.cell? ⟨w.heap.size, 4, none⟩ = some (.slice xa4 xn4 xc4) ∧ W.cell? ⟨w.heap.size, 5, none⟩ = some (.slice xa5 xn5 xc5)) := Lib.hid fun W hW => ⟨(Lib.cell_of_heap ((hW.block _ (heap_lt k1)).trans k1) 0).trans rfl, (Lib.cell_of_heap ((hW.block _ (heap_lt k1)).trans k1) 1).trans rfl, (Lib.cell_of_heap ((hW.block _ (heap_lt k1)).trans k1) 2).trans rfl, (Lib.cell_of_heap ((hW.block _ (heap_lt k1)).trans k1) 3).trans rfl, (Lib.cell_of_heap ((hW.block _ (heap_lt k1)).trans k1) 4).trans rfl, (Lib.cell_of_heap ((hW.block _ (heap_lt k1)).trans k1) 5).trans rfl⟩
  obtain ⟨d0, d1, d2, d3, d4, d5⟩ := MK.out w2 (Below.refl _ _)
  have HBV : Hid (Below w2.heap.size w2 w2) := Lib.hid (Below.refl _ _)
  try rw [hw2]
  clear hw2 k1
  cases t0 with
  | false =>
    go_wp2_with fail
    refine (H0.out _ (HB2.out.trans (HBV.out.mono HB2.out.size))).mono ?_; rintro e w5 ⟨rfl, hb⟩
    have HBV2 : Hid (Below w2.heap.size w2 w5) := Lib.hid (HBV.out.trans (hb.mono HBV.out.size))
    clear HBV hb
    have HBV := HBV2
    clear HBV2
    go_wp2_with fail
    go_ret
    exact ⟨ret_b rfl, HB2.out.trans (HBV.out.mono HB2.out.size)⟩
  | true =>
  go_wp2_with fail
  refine (H0.out _ (HB2.out.trans (HBV.out.mono HB2.out.size))).mono ?_; rintro e w5 ⟨rfl, hb⟩
  have HBV2 : Hid (Below w2.heap.size w2 w5) := Lib.hid (HBV.out.trans (hb.mono HBV.out.size))
  obtain ⟨d0, d1, d2, d3, d4, d5⟩ := MK.out w5 HBV2.out
  clear HBV hb
  have HBV := HBV2
  clear HBV2
  cases t1 with
  | false =>
    go_wp2_with fail
    refine (H1.out _ (HB2.out.trans (HBV.out.mono HB2.out.size))).mono ?_; rintro e w5 ⟨rfl, hb⟩
    have HBV2 : Hid (Below w2.heap.size w2 w5) := Lib.hid (HBV.out.trans (hb.mono HBV.out.size))
    clear HBV hb
    have HBV := HBV2
    clear HBV2
    go_wp2_with fail
    go_ret
    exact ⟨ret_b rfl, HB2.out.trans (HBV.out.mono HB2.out.size)⟩
  | true =>
  go_wp2_with fail
  refine (H1.out _ (HB2.out.trans (HBV.out.mono HB2.out.size))).mono ?_; rintro e w5 ⟨rfl, hb⟩
  have HBV2 : Hid (Below w2.heap.size w2 w5) := Lib.hid (HBV.out.trans (hb.mono HBV.out.size))
  obtain ⟨d0, d1, d2, d3, d4, d5⟩ := MK.out w5 HBV2.out
  clear HBV hb
  have HBV := HBV2
  clear HBV2
  cases t2 with
  | false =>
    go_wp2_with fail
    refine (H2.out _ (HB2.out.trans (HBV.out.mono HB2.out.size))).mono ?_; rintro e w5 ⟨rfl, hb⟩
    have HBV2 : Hid (Below w2.heap.size w2 w5) := Lib.hid (HBV.out.trans (hb.mono HBV.out.size))
    clear HBV hb
    have HBV := HBV2
    clear HBV2
    go_wp2_with fail
    go_ret
    exact ⟨ret_b rfl, HB2.out.trans (HBV.out.mono HB2.out.size)⟩
  | true =>
  go_wp2_with fail
  refine (H2.out _ (HB2.out.trans (HBV.out.mono HB2.out.size))).mono ?_; rintro e w5 ⟨rfl, hb⟩
  have HBV2 : Hid (Below w2.heap.size w2 w5) := Lib.hid (HBV.out.trans (hb.mono HBV.out.size))
  clear HBV hb
  have HBV := HBV2
  clear HBV2
  clear d0 d1 d2 d3 d4 d5 H0 H1 H2
  go_wp2_with fail
  go_loopw [3] (fun iv wr => ∃ k : Nat, k ≤ xn3 ∧ iv = .int .i64 (k : Int) ∧ Hid (((N.drop k).all enmB && ZF) = Z) ∧ Hid (Below w2.heap.size w2 wr)) (fun iv wr => xn3 - (intOf iv).toNat)
  case atStart => exact ⟨0, Nat.zero_le _, rfl, HZ0, HBV⟩
  case round =>
    clear HZ0 HBV
    rename World => wr
    obtain ⟨k, hk, rfl, HQ, HBV⟩ := hrel
    obtain ⟨d0, d1, d2, d3, d4, d5⟩ := MK.out wr HBV.out
    by_cases hlt : k < xn3
    · have hil : k < N.length := by have := HN3.out; omega
      obtain ⟨b, off, rfl, q0⟩ := HNM.out.2 k hil
      have hq := HQ.out
      rw [List.drop_eq_getElem_cons hil, List.all_cons, enmB_step] at hq
      have r0 := (HBV.out.cell (p := ⟨_, _, none⟩) (Nat.lt_of_lt_of_le (lt_of_cell q0) HB2.out.size)).trans ((HB2.out.cell (p := ⟨_, _, none⟩) (lt_of_cell q0)).trans q0)
      have hs := HNS.out N[k] (List.getElem_mem hil)
      obtain ⟨s0, hs0⟩ : ∃ t, nameB N[k] = t := ⟨_, rfl⟩
      obtain ⟨s1, hs1⟩ : ∃ t, wordsK.contains N[k] = t := ⟨_, rfl⟩
      rw [hs0, hs1] at hq
      have G0 : Hid (∀ W, Calls Tryz.prog 70 #[.string ⟨N[k].toArray⟩] W fun e w' => e = .returned (.bool s0) ∧ W = w') := Lib.hid fun W => by rw [← hs0]; exact rname_any _ (by rw [← bsz]; exact hs) W
      have G1 : Hid (∀ W, Calls Tryz.prog 73 #[.string ⟨N[k].toArray⟩] W fun e w' => e = .returned (.bool s1) ∧ W = w') := Lib.hid fun W => by rw [← hs1]; exact rcon_any _ W
      have HQ2 := Lib.hid hq
      clear hq HQ q0 hs hs0 hs1
      generalize (⟨N[k].toArray⟩ : ByteArray) = sx at *
      have i1 : (k : Int).toNat = k := by omega
      have i2 : (0 : Int) ≤ (k : Int) := by omega
      have i3 : (k : Int) < (xn3 : Int) := by omega
      cases s0 with
      | false =>
        have HF : Hid (false = Z) := Lib.hid (by rw [← HQ2.out]; rfl)
        go_wp2_with fail
        refine (G0.out _).mono ?_; rintro e w5 ⟨rfl, rfl⟩
        go_wp2_with fail
        go_ret
        exact ⟨ret_b (by rw [← HF.out]; rfl), HB2.out.trans (HBV.out.mono HB2.out.size)⟩
      | true =>
        go_wp2_with fail
        refine (G0.out _).mono ?_; rintro e w5 ⟨rfl, rfl⟩
        go_wp2_with fail
        refine (G1.out _).mono ?_; rintro e w5 ⟨rfl, rfl⟩
        cases s1 with
        | true =>
          have HF : Hid (false = Z) := Lib.hid (by rw [← HQ2.out]; rfl)
          go_wp2_with fail
          go_ret
          exact ⟨ret_b (by rw [← HF.out]; rfl), HB2.out.trans (HBV.out.mono HB2.out.size)⟩
        | false =>
          have HF : Hid (((N.drop (k + 1)).all enmB && ZF) = Z) := Lib.hid (by rw [← HQ2.out]; rfl)
          go_wp2_with fail
          go_roundw
          case rel => exact ⟨k + 1, by omega, by go_num, HF, HBV⟩
          case measure => simp [intOf]; omega
    · have HZF : Hid (ZF = Z) := Lib.hid (by rw [← HQ.out, List.drop_of_length_le (by have := HN3.out; omega)]; rfl)
      clear HQ HNM HNS
      have hkx : ¬ (k : Int) < (xn3 : Int) := by omega
      go_wp2_with fail
      go_loopw [4] (fun iv wr => ∃ k : Nat, k ≤ xn5 ∧ iv = .int .i64 (k : Int) ∧ Hid (((F.drop k).all fldB && KB) = ZF) ∧ Hid (Below w2.heap.size w2 wr)) (fun iv wr => xn5 - (intOf iv).toNat)
      case atStart => exact ⟨0, Nat.zero_le _, rfl, HZF0, HBV⟩
      case round =>
        clear HZF0 HBV d0 d1 d2 d3 d4 d5
        rename World => wr
        obtain ⟨k, hk, rfl, HQ, HBV⟩ := hrel
        obtain ⟨d0, d1, d2, d3, d4, d5⟩ := MK.out wr HBV.out
        by_cases hlt : k < xn5
        · have hil : k < F.length := by have := HN5.out; omega
          obtain ⟨b, off, rfl, hrow⟩ := HFD.out.2 (by omega)
          obtain ⟨ya, yn, yc, za, zn, zc, ta, tn, tc, q0, q1, q2, q3, q4, yy, yz, yu⟩ := fld_at (RowG.below hrow fun _ _ h => FldE.below h (HB2.out.trans (HBV.out.mono HB2.out.size))) k hil
          have sm := HFS.out F[k] (List.getElem_mem hil)
          have hq := HQ.out
          rw [List.drop_eq_getElem_cons hil, List.all_cons, fldB_step] at hq
          have hz := HBV.out.size
          obtain ⟨s0, hs0⟩ : ∃ t, nameB F[k].name = t := ⟨_, rfl⟩
          obtain ⟨s1, hs1⟩ : ∃ t, ttB F[k].tnm F[k].wr = t := ⟨_, rfl⟩
          obtain ⟨s2, hs2⟩ : ∃ t, fixD' F[k].dirs = t := ⟨_, rfl⟩
          obtain ⟨s3, hs3⟩ : ∃ t, F[k].args.all inpB = t := ⟨_, rfl⟩
          have G0 := Lib.hid fun W (hW : Below wr.heap.size wr W) => calls_below (rname_big ⟨F[k].name.toArray⟩ (by rw [← bsz]; exact sm.1) W)
          have G1 := Lib.hid fun W (hW : Below wr.heap.size wr W) => rmt_big ⟨F[k].tnm.toArray⟩ F[k].wr _ W (yz.below hW) (by rw [← bsz]; exact sm.2.1)
          have G2 := Lib.hid fun W (hW : Below wr.heap.size wr W) => rfd_any F[k].dirs _ W (DirSlc.below yu hW) sm.2.2.2.2
          have G3 := Lib.hid fun W (hW : Below wr.heap.size wr W) => rins_any F[k].args _ W (InpSl.below yy hW) sm.2.2.2.1
          simp only [hs0] at G0
          simp only [hs1] at G1
          rw [hs2] at G2
          rw [hs3] at G3
          rw [hs0, hs1, hs2, hs3] at hq
          have HQ2 := Lib.hid hq
          clear hq HQ sm yy yz yu hs0 hs1 hs2 hs3 hrow
          generalize (⟨F[k].name.toArray⟩ : ByteArray) = y0 at *
          generalize (⟨F[k].tnm.toArray⟩ : ByteArray) = y1 at *
          have i1 : (k : Int).toNat = k := by omega
          have i2 : (0 : Int) ≤ (k : Int) := by omega
          have i3 : (k : Int) < (xn5 : Int) := by omega
          have pb := lt_of_cell q0
          go_upto_region 12 with fail
          obtain ⟨fb, hfb⟩ : ∃ fb, wr.heap.size = fb := ⟨_, rfl⟩
          obtain ⟨w4, hw4⟩ : ∃ w4, wr.alloc (.cells #[.string y0, .slice ya yn yc, .string y1, .slice za zn zc, .slice ta tn tc] 40 (0, 0)) = w4 := ⟨_, rfl⟩
          have HBA : Hid (Below wr.heap.size wr w4) := Lib.hid (by rw [← hw4]; exact (Below.refl _ _).alloc (Nat.le_refl _) _)
          have k1 : w4.heap[wr.heap.size]? = some (.cells #[.string y0, .slice ya yn yc, .string y1, .slice za zn zc, .slice ta tn tc] 40 (0, 0)) := by rw [← hw4]; exact heap_new _ _ _ rfl
          rw [hfb] at k1
          have MF : Hid (∀ W, Below w4.heap.size w4 W → W.cell? ⟨fb, 0, none⟩ = some (.string y0) ∧ W.cell? ⟨fb, 1, none⟩ = some (.slice ya yn yc) ∧ W.cell? ⟨fb, 2, none⟩ = some (.string y1) ∧ W.cell? ⟨fb, 3, none⟩ = some (.slice za zn zc) ∧ W.cell? ⟨fb, 4, none⟩ = some (.slice ta tn tc)) := Lib.hid fun W hW => ⟨(Lib.cell_of_heap ((hW.block _ (heap_lt k1)).trans k1) 0).trans rfl, (Lib.cell_of_heap ((hW.block _ (heap_lt k1)).trans k1) 1).trans rfl, (Lib.cell_of_heap ((hW.block _ (heap_lt k1)).trans k1) 2).trans rfl, (Lib.cell_of_heap ((hW.block _ (heap_lt k1)).trans k1) 3).trans rfl, (Lib.cell_of_heap ((hW.block _ (heap_lt k1)).trans k1) 4).trans rfl⟩
          obtain ⟨e0, e1, e2, e3, e4⟩ := MF.out w4 (Below.refl _ _)
          try rw [hw4]
          try rw [hfb]
          have HBW : Hid (Below w4.heap.size w4 w4) := Lib.hid (Below.refl _ _)
          have HBX : Hid (Below w2.heap.size w2 wr) := HBV
          clear hw4 k1 q0 q1 q2 q3 q4 pb d0 d1 d2 d3 d4 d5 HBV
          cases s0 with
          | false =>
            go_wp2_with fail
            refine (G0.out _ (HBA.out.trans (HBW.out.mono HBA.out.size))).mono ?_; rintro e w5 ⟨rfl, hb⟩
            have HBW2 : Hid (Below w4.heap.size w4 w5) := Lib.hid (HBW.out.trans (hb.mono HBW.out.size))
            obtain ⟨e0, e1, e2, e3, e4⟩ := MF.out w5 HBW2.out
            clear HBW hb
            have HBW := HBW2
            clear HBW2
            have HBV : Hid (Below w2.heap.size w2 _) := Lib.hid (HBX.out.trans ((HBA.out.trans (HBW.out.mono HBA.out.size)).mono hz))
            have HF : Hid (false = Z) := Lib.hid (by rw [← HZF.out, ← HQ2.out]; rfl)
            go_wp2_with fail
            go_ret
            exact ⟨ret_b (by rw [← HF.out]; rfl), HB2.out.trans (HBV.out.mono HB2.out.size)⟩
          | true =>
            go_wp2_with fail
            refine (G0.out _ (HBA.out.trans (HBW.out.mono HBA.out.size))).mono ?_; rintro e w5 ⟨rfl, hb⟩
            have HBW2 : Hid (Below w4.heap.size w4 w5) := Lib.hid (HBW.out.trans (hb.mono HBW.out.size))
            obtain ⟨e0, e1, e2, e3, e4⟩ := MF.out w5 HBW2.out
            clear HBW hb
            have HBW := HBW2
            clear HBW2
            cases s1 with
            | false =>
              go_wp2_with fail
              refine (G1.out _ (HBA.out.trans (HBW.out.mono HBA.out.size))).mono ?_; rintro e w5 ⟨rfl, hb⟩
              have HBW2 : Hid (Below w4.heap.size w4 w5) := Lib.hid (HBW.out.trans (hb.mono HBW.out.size))
              obtain ⟨e0, e1, e2, e3, e4⟩ := MF.out w5 HBW2.out
              clear HBW hb
              have HBW := HBW2
              clear HBW2
              have HBV : Hid (Below w2.heap.size w2 _) := Lib.hid (HBX.out.trans ((HBA.out.trans (HBW.out.mono HBA.out.size)).mono hz))
              have HF : Hid (false = Z) := Lib.hid (by rw [← HZF.out, ← HQ2.out]; rfl)
              go_wp2_with fail
              go_ret
              exact ⟨ret_b (by rw [← HF.out]; rfl), HB2.out.trans (HBV.out.mono HB2.out.size)⟩
            | true =>
              go_wp2_with fail
              refine (G1.out _ (HBA.out.trans (HBW.out.mono HBA.out.size))).mono ?_; rintro e w5 ⟨rfl, hb⟩
              have HBW2 : Hid (Below w4.heap.size w4 w5) := Lib.hid (HBW.out.trans (hb.mono HBW.out.size))
              obtain ⟨e0, e1, e2, e3, e4⟩ := MF.out w5 HBW2.out
              clear HBW hb
              have HBW := HBW2
              clear HBW2
              cases s2 with
              | false =>
                go_wp2_with fail
                refine (G2.out _ (HBA.out.trans (HBW.out.mono HBA.out.size))).mono ?_; rintro e w5 ⟨rfl, hb⟩
                have HBW2 : Hid (Below w4.heap.size w4 w5) := Lib.hid (HBW.out.trans (hb.mono HBW.out.size))
                obtain ⟨e0, e1, e2, e3, e4⟩ := MF.out w5 HBW2.out
                clear HBW hb
                have HBW := HBW2
                clear HBW2
                have HBV : Hid (Below w2.heap.size w2 _) := Lib.hid (HBX.out.trans ((HBA.out.trans (HBW.out.mono HBA.out.size)).mono hz))
                have HF : Hid (false = Z) := Lib.hid (by rw [← HZF.out, ← HQ2.out]; rfl)
                go_wp2_with fail
                go_ret
                exact ⟨ret_b (by rw [← HF.out]; rfl), HB2.out.trans (HBV.out.mono HB2.out.size)⟩
              | true =>
                go_wp2_with fail
                refine (G2.out _ (HBA.out.trans (HBW.out.mono HBA.out.size))).mono ?_; rintro e w5 ⟨rfl, hb⟩
                have HBW2 : Hid (Below w4.heap.size w4 w5) := Lib.hid (HBW.out.trans (hb.mono HBW.out.size))
                obtain ⟨e0, e1, e2, e3, e4⟩ := MF.out w5 HBW2.out
                clear HBW hb
                have HBW := HBW2
                clear HBW2
                cases s3 with
                | false =>
                  go_wp2_with fail
                  refine (G3.out _ (HBA.out.trans (HBW.out.mono HBA.out.size))).mono ?_; rintro e w5 ⟨rfl, hb⟩
                  have HBW2 : Hid (Below w4.heap.size w4 w5) := Lib.hid (HBW.out.trans (hb.mono HBW.out.size))
                  obtain ⟨e0, e1, e2, e3, e4⟩ := MF.out w5 HBW2.out
                  clear HBW hb
                  have HBW := HBW2
                  clear HBW2
                  have HBV : Hid (Below w2.heap.size w2 _) := Lib.hid (HBX.out.trans ((HBA.out.trans (HBW.out.mono HBA.out.size)).mono hz))
                  have HF : Hid (false = Z) := Lib.hid (by rw [← HZF.out, ← HQ2.out]; rfl)
                  go_wp2_with fail
                  go_ret
                  exact ⟨ret_b (by rw [← HF.out]; rfl), HB2.out.trans (HBV.out.mono HB2.out.size)⟩
                | true =>
                  go_wp2_with fail
                  refine (G3.out _ (HBA.out.trans (HBW.out.mono HBA.out.size))).mono ?_; rintro e w5 ⟨rfl, hb⟩
                  have HBW2 : Hid (Below w4.heap.size w4 w5) := Lib.hid (HBW.out.trans (hb.mono HBW.out.size))
                  obtain ⟨e0, e1, e2, e3, e4⟩ := MF.out w5 HBW2.out
                  clear HBW hb
                  have HBW := HBW2
                  clear HBW2
                  have HBV : Hid (Below w2.heap.size w2 _) := Lib.hid (HBX.out.trans ((HBA.out.trans (HBW.out.mono HBA.out.size)).mono hz))
                  have HF : Hid (((F.drop (k + 1)).all fldB && KB) = ZF) := Lib.hid (by rw [← HQ2.out]; rfl)
                  go_wp2_with fail
                  go_roundw
                  case rel => exact ⟨k + 1, by omega, by go_num, HF, HBV⟩
                  case measure => simp [intOf]; omega
        · have HKZ : Hid (KB = Z) := Lib.hid (by rw [← HZF.out, ← HQ.out, List.drop_of_length_le (by have := HN5.out; omega)]; rfl)
          have HKK : Hid (kindB kk xn3 xn4 xn5 = Z) := Lib.hid (HKB.out.trans HKZ.out)
          clear HQ HKZ HKB HZF HFS HFD
          have hky : ¬ (k : Int) < (xn5 : Int) := by omega
          have key : ∀ n : Nat, 0 < n ∨ ¬ 0 < n := fun n => Classical.em _
          have kq : kk = 1 ∨ kk = 2 ∨ kk = 3 ∨ (¬ kk = 1 ∧ ¬ kk = 2 ∧ ¬ kk = 3) := by omega
          have f3 := key xn3
          have f4 := key xn4
          have f5 := key xn5
          go_upto_region 14 with fail
          rcases kq with rfl | rfl | rfl | ⟨n1, n2, n3⟩
          · rcases f3 with f3 | f3 <;> rcases f4 with f4 | f4 <;> rcases f5 with f5 | f5
            all_goals
              go_quiet (fail)
              go_wp2_with fail
              go_ret
              exact ⟨ret_b (by have hkk := HKK.out; unfold kindB at hkk; simp [*] at hkk ⊢; try exact hkk), HB2.out.trans ((below_dN _ HBV.out).mono HB2.out.size)⟩
          · rcases f3 with f3 | f3 <;> rcases f4 with f4 | f4 <;> rcases f5 with f5 | f5
            all_goals
              go_quiet (fail)
              go_wp2_with fail
              go_ret
              exact ⟨ret_b (by have hkk := HKK.out; unfold kindB at hkk; simp [*] at hkk ⊢; try exact hkk), HB2.out.trans ((below_dN _ HBV.out).mono HB2.out.size)⟩
          · rcases f3 with f3 | f3 <;> rcases f4 with f4 | f4 <;> rcases f5 with f5 | f5
            all_goals
              go_quiet (fail)
              go_wp2_with fail
              go_ret
              exact ⟨ret_b (by have hkk := HKK.out; unfold kindB at hkk; simp [*] at hkk ⊢; try exact hkk), HB2.out.trans ((below_dN _ HBV.out).mono HB2.out.size)⟩
          · have b1 : (kk == 1) = false := beq_eq_false_iff_ne.2 n1
            have b2 : (kk == 2) = false := beq_eq_false_iff_ne.2 n2
            have b3 : (kk == 3) = false := beq_eq_false_iff_ne.2 n3
            rcases f3 with f3 | f3 <;> rcases f4 with f4 | f4 <;> rcases f5 with f5 | f5
            all_goals
              go_quiet (fail)
              go_wp2_with fail
              go_ret
              exact ⟨ret_b (by have hkk := HKK.out; unfold kindB at hkk; simp [*] at hkk ⊢; try exact hkk), HB2.out.trans ((below_dN _ HBV.out).mono HB2.out.size)⟩
theorem rmay_any (x : Dfn) (ev : Value) (w : World) (h : DfnV ev x w) (hs : DfnSm x) :
    Calls Tryz.prog 49 #[ev] w fun e w' => e = .returned (.bool (dfnB x)) ∧ Below w.heap.size w w' := by
  obtain ⟨_, _, _, _, _, _, _, _, _, _, _, _, rfl, h1, h2, h3, h4⟩ := h
  have l2 := slg_len h2
  have l3 := slg_len h3
  have l4 := slg_len h4
  have hr : dfnB x = (nameB x.name && fixD' x.dirs && x.inputs.all inpB && (x.names.all enmB && (x.fields.all fldB && kindB (x.kind.toNat : Int) x.names.length x.inputs.length x.fields.length))) := by
    unfold dfnB
    cases kindB (x.kind.toNat : Int) x.names.length x.inputs.length x.fields.length <;> cases nameB x.name <;> cases fixD' x.dirs <;> cases x.names.all enmB <;> cases x.inputs.all inpB <;> cases x.fields.all fldB <;> rfl
  rw [hr, ← l2, ← l3, ← l4]
  refine rmay_go _ _ _ _ _ _ _ _ _ _ _ _ _ _ x.names x.fields _ _ _ w hs.2.2.1.1 hs.2.2.2.2.1 (Lib.hid (nmAt_of h2)) (Lib.hid (fldAt_of h4)) (Lib.hid hs.2.2.1.2) (Lib.hid hs.2.2.2.2.2) ?_ ?_ ?_
  · exact Lib.hid fun W _ => calls_below (rname_any ⟨x.name.toArray⟩ (by rw [← bsz]; exact hs.1) W)
  · exact Lib.hid fun W hW => rfd_any _ _ W (DirSlc.below h1 hW) hs.2.1
  · exact Lib.hid fun W hW => rins_any _ _ W (InpSl.below h3 hW) hs.2.2.2.1
set_option maxRecDepth 100000 in
set_option maxHeartbeats 4000000 in
theorem rmays_row (L : List Dfn) (b off cap : Nat) (hl : L.length ≤ 100000) (h0 : 0 < L.length) (w : World) (hrow : RowG 6 DfnE ⟨b, off, none⟩ L w) (hs : ∀ x ∈ L, DfnSm x) :
    Calls Tryz.prog 23 #[.slice (some ⟨b, off, none⟩) L.length cap] w fun e w' => e = .returned (.bool (L.all dfnB)) ∧ Below w.heap.size w w' := by
  have HROW := Lib.hid hrow
  have HS := Lib.hid hs
  obtain ⟨Z, hZ⟩ : ∃ Z, L.all dfnB = Z := ⟨_, rfl⟩
  have HZ0 : Hid ((L.drop 0).all dfnB = Z) := Lib.hid hZ
  rw [hZ]
  obtain ⟨n, hn⟩ : ∃ n, L.length = n := ⟨_, rfl⟩
  have HN := Lib.hid hn
  rw [hn] at hl h0 ⊢
  clear hrow hs hZ hn
  go_enter Tryz.func23, Tryz.ntmps23
  go_wp2_with fail
  go_loopw [3] (fun iv wr => ∃ k : Nat, k ≤ n ∧ iv = .int .i64 (k : Int) ∧ Hid ((L.drop k).all dfnB = Z) ∧ Hid (Below w.heap.size w wr)) (fun iv wr => n - (intOf iv).toNat)
  case atStart => exact ⟨0, Nat.zero_le _, rfl, HZ0, Lib.hid (Below.refl _ _)⟩
  case round =>
    clear HZ0
    rename World => wr
    obtain ⟨k, hk, rfl, HQ, HB⟩ := hrel
    by_cases hlt : k < n
    · have hil : k < L.length := by have := HN.out; omega
      obtain ⟨y0, y1, y2, y3, y4, y5, y6, y7, y8, y9, y10, y11, q0, q1, q2, q3, q4, q5, yy, yz, yu, yv⟩ := dfn_at (RowG.below HROW.out fun _ _ h => DfnE.below h HB.out) k hil
      have sm := HS.out L[k] (List.getElem_mem hil)
      have hq := HQ.out
      rw [List.drop_eq_getElem_cons hil, List.all_cons] at hq
      have hz := HB.out.size
      have HC0 := Lib.hid (rmay_any L[k] _ wr ⟨_, _, _, _, _, _, _, _, _, _, _, _, rfl, yy, yz, yu, yv⟩ sm)
      obtain ⟨t0, ht0⟩ : ∃ t, dfnB L[k] = t := ⟨_, rfl⟩
      rw [ht0] at hq HC0
      have HQ2 := Lib.hid hq
      clear hq HQ sm yy yz yu yv ht0
      generalize (L[k].kind.toNat : Int) = kk at *
      generalize (⟨L[k].name.toArray⟩ : ByteArray) = x0 at *
      have i1 : (k : Int).toNat = k := by omega
      have i2 : (0 : Int) ≤ (k : Int) := by omega
      have i3 : (k : Int) < (n : Int) := by omega
      cases t0 with
      | false =>
        have HF : Hid (false = Z) := Lib.hid (by rw [← HQ2.out]; rfl)
        go_wp2_with fail
        refine HC0.out.mono ?_; rintro e w1 ⟨rfl, hb⟩
        have HB1 := Lib.hid (HB.out.trans (hb.mono hz))
        clear hb
        go_wp2_with fail
        go_ret
        exact ⟨ret_b HF.out, HB1.out⟩
      | true =>
        have HF : Hid ((L.drop (k + 1)).all dfnB = Z) := Lib.hid (by rw [← HQ2.out]; rfl)
        go_wp2_with fail
        refine HC0.out.mono ?_; rintro e w1 ⟨rfl, hb⟩
        have HB1 := Lib.hid (HB.out.trans (hb.mono hz))
        clear hb
        go_wp2_with fail
        go_roundw
        case rel => exact ⟨k + 1, by omega, by go_num, HF, HB1⟩
        case measure => simp [intOf]; omega
    · have HF : Hid (true = Z) := Lib.hid (by rw [← HQ.out, List.drop_of_length_le (by have := HN.out; omega)]; rfl)
      clear HQ
      go_wp2_with fail
      go_ret
      exact ⟨ret_b HF.out, HB.out⟩
set_option maxRecDepth 100000 in
theorem rmays_none (a : Option Addr) (c : Nat) (w : World) :
    Calls Tryz.prog 23 #[.slice a 0 c] w fun e w' => e = .returned (.bool false) ∧ Below w.heap.size w w' := by
  go_enter Tryz.func23, Tryz.ntmps23
  go_wp2_with fail
  refine wp_loop_rounds 1 ?_; rw [rounds_succ]
  go_wp2_with fail
  go_ret
  exact ⟨rfl, Below.refl _ _⟩
theorem rmays_any (L : List Dfn) (v : Value) (w : World) (hv : DfnSl v L w) (hs : DfnsSm L) :
    Calls Tryz.prog 23 #[v] w fun e w' => e = .returned (.bool (defsB L)) ∧ Below w.heap.size w w' := by
  rcases hv with ⟨a, c, rfl, rfl⟩ | ⟨b, off, cap, rfl, hrow, hpos⟩
  · exact rmays_none a c w
  · have hr : defsB L = L.all dfnB := by
      unfold defsB
      cases L with
      | nil => cases hpos
      | cons x r => rfl
    rw [hr]
    exact rmays_row L b off cap hs.1 hpos w hrow hs.2
set_option maxRecDepth 100000 in
theorem rchk20_any (L : List Dfn) (v : Value) (w : World) (hv : DfnSl v L w) (hs : DfnsSm L) :
    Calls Tryz.prog 6 #[v] w fun e w' => e = .returned (.int .i64 (if defsB L then 0 else 8)) ∧ Below w.heap.size w w' := by
  have HC := Lib.hid (rmays_any L v w hv hs)
  generalize defsB L = r at *
  clear hv hs
  go_enter Tryz.func6, Tryz.ntmps6
  go_wp2_with fail
  refine HC.out.mono ?_; rintro e w1 ⟨rfl, hb⟩
  have HB := Lib.hid hb
  clear hb HC
  cases r with
  | false =>
    go_wp2_with fail
    go_ret
    exact ⟨rfl, HB.out⟩
  | true =>
    go_wp2_with fail
    go_ret
    exact ⟨rfl, HB.out⟩
end Go.Proofs.YtgacpmdebjndkaaGreatDoor
