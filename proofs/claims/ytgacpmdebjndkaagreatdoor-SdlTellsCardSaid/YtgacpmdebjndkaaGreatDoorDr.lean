/- The reference's Great (sdl). -/
import Derived.Test.YtgacpmdebjndkaaGreatDoorDp
import Derived.Test.YtgacpmdebjndkaaGreatDoorDq
set_option linter.unusedSimpArgs false
set_option linter.unusedVariables false
namespace Go.Proofs.YtgacpmdebjndkaaGreatDoor
open Go.RowKit
set_option maxRecDepth 100000 in
set_option maxHeartbeats 16000000 in
theorem g20_row (L : List Dfn) (b off cap : Nat) (hl : L.length ≤ 9223372036854775807) (w : World) (hrow : RowG 6 DfnE ⟨b, off, none⟩ L w) (hsz : ∀ x ∈ L, DfnB x) :
    Calls Tryz.prog 4 #[.slice (some ⟨b, off, none⟩) L.length cap] w (GreatR (L.length ≤ 20 ∧ ∀ x ∈ L, NGD x) w) := by
  have HROW := Lib.hid hrow
  have HS := Lib.hid hsz
  have HZ0 : Hid (∀ x ∈ L.take 0, NGD x) := Lib.hid (fun x hx => by cases hx)
  obtain ⟨n, hn⟩ : ∃ n, L.length = n := ⟨_, rfl⟩
  have HN := Lib.hid hn
  rw [hn] at hl ⊢
  clear hrow hsz hn
  go_enter Tryz.func4, Tryz.ntmps4
  go_wp2_with fail
  go_loopw [3] (fun iv wr => ∃ i : Nat, i ≤ n ∧ i ≤ 30 ∧ iv = .int .i64 (i : Int) ∧ Hid (∀ x ∈ L.take i, NGD x) ∧ Hid (Below w.heap.size w wr)) (fun iv wr => n - (intOf iv).toNat)
  case atStart => exact ⟨0, Nat.zero_le _, Nat.zero_le _, rfl, HZ0, Lib.hid (Below.refl _ _)⟩
  case round =>
    clear HZ0
    rename World => wr
    obtain ⟨i, hi, hi30, rfl, HQ, HB⟩ := hrel
    by_cases hin : i < n
    · by_cases h30 : i < 30
      · have hil : i < L.length := by have := HN.out; omega
        obtain ⟨xa2, xn2, xc2, xa3, xn3, xc3, xa4, xn4, xc4, xa5, xn5, xc5, q0, q1, q2, q3, q4, q5, yy, yz, yu, yv⟩ := dfn_at (RowG.below HROW.out fun _ _ h => DfnE.below h HB.out) i hil
        obtain ⟨s1, s2, s3, s4, s5⟩ := HS.out L[i] (List.getElem_mem hil)
        have hz := HB.out.size
        obtain ⟨t0, ht0⟩ : ∃ t, greatDB L[i].dirs = t := ⟨_, rfl⟩
        have HC0 := Lib.hid fun W (hW : Below wr.heap.size wr W) => gdirs_any L[i].dirs _ W (DirSlc.below yy hW) s2
        rw [ht0] at HC0
        have HC1 := Lib.hid fun W (hW : Below wr.heap.size wr W) => gInputs_any L[i].inputs _ W (InpSl.below yu hW) s4
        have HNM : Hid (NmAt xa3 xn3 L[i].names wr) := Lib.hid (nmAt_of yz)
        have HFD : Hid (FldAt xa5 xn5 L[i].fields wr) := Lib.hid (fldAt_of yv)
        have HN3 : Hid (xn3 = L[i].names.length) := Lib.hid HNM.out.1
        have HN5 : Hid (xn5 = L[i].fields.length) := Lib.hid HFD.out.1
        have HFS : Hid (∀ f ∈ L[i].fields, FldB f) := Lib.hid s5.2
        have z0 : L[i].name.length = (⟨L[i].name.toArray⟩ : ByteArray).size := by simp [ByteArray.size]
        have HNG : Hid (t0 = false → NGIs L[i].inputs → (⟨L[i].name.toArray⟩ : ByteArray).size ≤ 300 → xn3 ≤ 40 → xn5 ≤ 20 → (∀ f ∈ L[i].fields, NGF f) → (∀ s ∈ L[i].names, s.length ≤ 300) → NGD L[i]) := Lib.hid fun a0 a1 a2 a3 a4 a5 a6 => ⟨ht0.trans a0, a1, by omega, by have := HN3.out; omega, by have := HN5.out; omega, a5, a6⟩
        generalize (⟨L[i].name.toArray⟩ : ByteArray) = x1 at *
        generalize (L[i].kind.toNat : Int) = kk at *
        obtain ⟨FL, hFL⟩ : ∃ FL, L[i].fields = FL := ⟨_, rfl⟩
        obtain ⟨NL, hNL⟩ : ∃ NL, L[i].names = NL := ⟨_, rfl⟩
        rw [hFL] at HFD HN5 HFS
        rw [hNL] at HNM HN3
        rw [hFL, hNL] at HNG
        clear yy yz yu yv s1 s2 s3 s4 s5 ht0 z0 hFL hNL
        have i1 : (i : Int).toNat = i := by omega
        have i2 : (0 : Int) ≤ (i : Int) := by omega
        have i3 : (i : Int) < (n : Int) := by omega
        have i5 : (i : Int) < 30 := by omega
        have pb := lt_of_cell q0
        go_upto_region 5 with fail
        obtain ⟨xb, hxb⟩ : ∃ xb, wr.heap.size = xb := ⟨_, rfl⟩
        obtain ⟨w2, hw2⟩ : ∃ w2, wr.alloc (.cells #[.int .u8 kk, .string x1, .slice xa2 xn2 xc2, .slice xa3 xn3 xc3, .slice xa4 xn4 xc4, .slice xa5 xn5 xc5] 33 (0, 0)) = w2 := ⟨_, rfl⟩
        have HBA : Hid (Below wr.heap.size wr w2) := Lib.hid (by rw [← hw2]; exact (Below.refl _ _).alloc (Nat.le_refl _) _)
        have k1 : w2.heap[wr.heap.size]? = some (.cells #[.int .u8 kk, .string x1, .slice xa2 xn2 xc2, .slice xa3 xn3 xc3, .slice xa4 xn4 xc4, .slice xa5 xn5 xc5] 33 (0, 0)) := by rw [← hw2]; exact heap_new _ _ _ rfl
        rw [hxb] at k1
        have MK : Hid (∀ W, Below w2.heap.size w2 W → W.cell? ⟨xb, 0, none⟩ = some (.int .u8 kk) ∧ W.cell? ⟨xb, 1, none⟩ = some (.string x1) ∧ W.cell? ⟨xb, 2, none⟩ = some (.slice xa2 xn2 xc2) ∧ W.cell? ⟨xb, 3, none⟩ = some (.slice xa3 xn3 xc3) ∧ W.cell? ⟨xb, 4, none⟩ = some (.slice xa4 xn4 xc4) ∧ W.cell? ⟨xb, 5, none⟩ = some (.slice xa5 xn5 xc5)) := Lib.hid fun W hW => ⟨(Lib.cell_of_heap ((hW.block _ (heap_lt k1)).trans k1) 0).trans rfl, (Lib.cell_of_heap ((hW.block _ (heap_lt k1)).trans k1) 1).trans rfl, (Lib.cell_of_heap ((hW.block _ (heap_lt k1)).trans k1) 2).trans rfl, (Lib.cell_of_heap ((hW.block _ (heap_lt k1)).trans k1) 3).trans rfl, (Lib.cell_of_heap ((hW.block _ (heap_lt k1)).trans k1) 4).trans rfl, (Lib.cell_of_heap ((hW.block _ (heap_lt k1)).trans k1) 5).trans rfl⟩
        obtain ⟨d0, d1, d2, d3, d4, d5⟩ := MK.out w2 (Below.refl _ _)
        try rw [hw2]
        try rw [hxb]
        have HBV : Hid (Below w2.heap.size w2 w2) := Lib.hid (Below.refl _ _)
        clear hw2 k1 q0 q1 q2 q3 q4 q5 pb
        go_wp2_with fail
        refine (HC0.out _ HBA.out).mono ?_; rintro e w5 ⟨rfl, rfl⟩
        cases t0 with
        | true =>
          go_wp2_with fail
          go_ret
          exact ⟨true, rfl, (fun h => by cases h), HB.out.trans ((HBA.out.trans (HBV.out.mono HBA.out.size)).mono hz)⟩
        | false =>
        go_wp2_with fail
        refine (HC1.out _ HBA.out).mono ?_; rintro e w5 ⟨g, rfl, hg, hb⟩
        have HBV2 : Hid (Below w2.heap.size w2 w5) := Lib.hid hb
        have HG := Lib.hid hg
        obtain ⟨d0, d1, d2, d3, d4, d5⟩ := MK.out w5 HBV2.out
        clear HBV hb hg
        have HBV := HBV2
        clear HBV2
        cases g with
        | true =>
          go_wp2_with fail
          go_ret
          exact ⟨true, rfl, (fun h => by cases h), HB.out.trans ((HBA.out.trans (HBV.out.mono HBA.out.size)).mono hz)⟩
        | false =>
        obtain ⟨g1, hg1⟩ : ∃ t : Bool, decide ((300 : Int) < (x1.size : Int)) = t := ⟨_, rfl⟩
        cases g1 with
        | true =>
          go_wp2_with fail
          go_ret
          exact ⟨true, rfl, (fun h => by cases h), HB.out.trans ((HBA.out.trans (HBV.out.mono HBA.out.size)).mono hz)⟩
        | false =>
        have Khs1 := Lib.hid (of_decide_eq_false hg1)
        obtain ⟨g3, hg3⟩ : ∃ t : Bool, decide ((40 : Int) < (xn3 : Int)) = t := ⟨_, rfl⟩
        cases g3 with
        | true =>
          go_wp2_with fail
          go_ret
          exact ⟨true, rfl, (fun h => by cases h), HB.out.trans ((HBA.out.trans (HBV.out.mono HBA.out.size)).mono hz)⟩
        | false =>
        have Khs3 := Lib.hid (of_decide_eq_false hg3)
        obtain ⟨g5, hg5⟩ : ∃ t : Bool, decide ((20 : Int) < (xn5 : Int)) = t := ⟨_, rfl⟩
        cases g5 with
        | true =>
          go_wp2_with fail
          go_ret
          exact ⟨true, rfl, (fun h => by cases h), HB.out.trans ((HBA.out.trans (HBV.out.mono HBA.out.size)).mono hz)⟩
        | false =>
        have Khs5 := Lib.hid (of_decide_eq_false hg5)
        have xb5 : xn5 ≤ 20 := by have := Khs5.out; omega
        have xb3 : xn3 ≤ 40 := by have := Khs3.out; omega
        have HF0 : Hid (∀ f ∈ FL.take 0, NGF f) := Lib.hid (fun x hx => by cases hx)
        go_wp2_with fail
        go_loopw [5] (fun iv wr3 => ∃ k : Nat, k ≤ xn5 ∧ iv = .int .i64 (k : Int) ∧ Hid (∀ f ∈ FL.take k, NGF f) ∧ Hid (Below w2.heap.size w2 wr3)) (fun iv wr3 => xn5 - (intOf iv).toNat)
        case atStart => exact ⟨0, Nat.zero_le _, rfl, HF0, HBV⟩
        case round =>
          clear HF0 HBV d0 d1 d2 d3 d4 d5
          rename World => wr3
          obtain ⟨k, hk, rfl, HQF, HBV⟩ := hrel
          obtain ⟨d0, d1, d2, d3, d4, d5⟩ := MK.out wr3 HBV.out
          by_cases hlt : k < xn5
          · have hkl : k < FL.length := by have := HN5.out; omega
            obtain ⟨b2, o2, rfl, hrow2⟩ := HFD.out.2 (by omega)
            obtain ⟨ya, yn, yc, za, zn, zc, ta, tn, tc, q0, q1, q2, q3, q4, yy, yz, yu⟩ := fld_at (RowG.below hrow2 fun _ _ h => FldE.below h (HBA.out.trans (HBV.out.mono HBA.out.size))) k hkl
            obtain ⟨s1, s2, s3, s4, s5⟩ := HFS.out FL[k] (List.getElem_mem hkl)
            have hzf := HBV.out.size
            obtain ⟨u0, hu0⟩ : ∃ t, greatDB FL[k].dirs = t := ⟨_, rfl⟩
            have G0 := Lib.hid fun W (hW : Below wr3.heap.size wr3 W) => gdirs_any FL[k].dirs _ W (DirSlc.below yu hW) s5
            rw [hu0] at G0
            have G1 := Lib.hid fun W (hW : Below wr3.heap.size wr3 W) => gInputs_any FL[k].args _ W (InpSl.below yy hW) s2
            have hwl : zn = FL[k].wr.length := by
              obtain ⟨_, _, e⟩ := yz.form
              injection e with _ e2 _
            have HNF : Hid (u0 = false → NGIs FL[k].args → zn ≤ 20 → NGF FL[k]) := Lib.hid fun a0 a1 a2 => ⟨hu0.trans a0, a1, by omega⟩
            generalize (⟨FL[k].name.toArray⟩ : ByteArray) = y0 at *
            generalize (⟨FL[k].tnm.toArray⟩ : ByteArray) = y1 at *
            clear yy yz yu s1 s2 s3 s4 s5 hu0 hwl hrow2
            have j1 : (k : Int).toNat = k := by omega
            have j2 : (0 : Int) ≤ (k : Int) := by omega
            have j3 : (k : Int) < (xn5 : Int) := by omega
            have pb := lt_of_cell q0
            go_upto_region 11 with fail
            obtain ⟨fb, hfb⟩ : ∃ fb, wr3.heap.size = fb := ⟨_, rfl⟩
            obtain ⟨w4, hw4⟩ : ∃ w4, wr3.alloc (.cells #[.string y0, .slice ya yn yc, .string y1, .slice za zn zc, .slice ta tn tc] 40 (0, 0)) = w4 := ⟨_, rfl⟩
            have HBF : Hid (Below wr3.heap.size wr3 w4) := Lib.hid (by rw [← hw4]; exact (Below.refl _ _).alloc (Nat.le_refl _) _)
            have k1 : w4.heap[wr3.heap.size]? = some (.cells #[.string y0, .slice ya yn yc, .string y1, .slice za zn zc, .slice ta tn tc] 40 (0, 0)) := by rw [← hw4]; exact heap_new _ _ _ rfl
            rw [hfb] at k1
            have MF : Hid (∀ W, Below w4.heap.size w4 W → W.cell? ⟨fb, 0, none⟩ = some (.string y0) ∧ W.cell? ⟨fb, 1, none⟩ = some (.slice ya yn yc) ∧ W.cell? ⟨fb, 2, none⟩ = some (.string y1) ∧ W.cell? ⟨fb, 3, none⟩ = some (.slice za zn zc) ∧ W.cell? ⟨fb, 4, none⟩ = some (.slice ta tn tc)) := Lib.hid fun W hW => ⟨(Lib.cell_of_heap ((hW.block _ (heap_lt k1)).trans k1) 0).trans rfl, (Lib.cell_of_heap ((hW.block _ (heap_lt k1)).trans k1) 1).trans rfl, (Lib.cell_of_heap ((hW.block _ (heap_lt k1)).trans k1) 2).trans rfl, (Lib.cell_of_heap ((hW.block _ (heap_lt k1)).trans k1) 3).trans rfl, (Lib.cell_of_heap ((hW.block _ (heap_lt k1)).trans k1) 4).trans rfl⟩
            obtain ⟨e0, e1, e2, e3, e4⟩ := MF.out w4 (Below.refl _ _)
            try rw [hw4]
            try rw [hfb]
            have HBW : Hid (Below w4.heap.size w4 w4) := Lib.hid (Below.refl _ _)
            have HBX : Hid (Below w2.heap.size w2 wr3) := HBV
            clear hw4 k1 q0 q1 q2 q3 q4 pb d0 d1 d2 d3 d4 d5 HBV
            go_wp2_with fail
            refine (G0.out _ HBF.out).mono ?_; rintro e w5 ⟨rfl, rfl⟩
            cases u0 with
            | true =>
              go_wp2_with fail
              go_ret
              exact ⟨true, rfl, (fun h => by cases h), HB.out.trans ((HBA.out.trans ((HBX.out.trans ((HBF.out.trans (HBW.out.mono HBF.out.size)).mono hzf)).mono HBA.out.size)).mono hz)⟩
            | false =>
            go_wp2_with fail
            refine (G1.out _ HBF.out).mono ?_; rintro e w5 ⟨g, rfl, hg, hb⟩
            have HBW2 : Hid (Below w4.heap.size w4 w5) := Lib.hid hb
            have HGF := Lib.hid hg
            obtain ⟨e0, e1, e2, e3, e4⟩ := MF.out w5 HBW2.out
            clear HBW hb hg
            have HBW := HBW2
            clear HBW2
            cases g with
            | true =>
              go_wp2_with fail
              go_ret
              exact ⟨true, rfl, (fun h => by cases h), HB.out.trans ((HBA.out.trans ((HBX.out.trans ((HBF.out.trans (HBW.out.mono HBF.out.size)).mono hzf)).mono HBA.out.size)).mono hz)⟩
            | false =>
            obtain ⟨g6, hg6⟩ : ∃ t : Bool, decide ((300 : Int) < wrap64 ((y0.size : Int) + (y1.size : Int))) = t := ⟨_, rfl⟩
            cases g6 with
            | true =>
              go_wp2_with fail
              go_ret
              exact ⟨true, rfl, (fun h => by cases h), HB.out.trans ((HBA.out.trans ((HBX.out.trans ((HBF.out.trans (HBW.out.mono HBF.out.size)).mono hzf)).mono HBA.out.size)).mono hz)⟩
            | false =>
            have Khs6 := Lib.hid (of_decide_eq_false hg6)
            obtain ⟨g7, hg7⟩ : ∃ t : Bool, decide ((20 : Int) < (zn : Int)) = t := ⟨_, rfl⟩
            cases g7 with
            | true =>
              go_wp2_with fail
              go_ret
              exact ⟨true, rfl, (fun h => by cases h), HB.out.trans ((HBA.out.trans ((HBX.out.trans ((HBF.out.trans (HBW.out.mono HBF.out.size)).mono hzf)).mono HBA.out.size)).mono hz)⟩
            | false =>
            have Khs7 := Lib.hid (of_decide_eq_false hg7)
            have HQF2 : Hid (∀ f ∈ FL.take (k + 1), NGF f) := Lib.hid (take_next HQF.out hkl (HNF.out (by first | exact rfl | trivial) (HGF.out (by first | exact rfl | trivial)) (by have := Khs7.out; omega)))
            have HBN : Hid (Below w2.heap.size w2 w5) := Lib.hid (HBX.out.trans ((HBF.out.trans (HBW.out.mono HBF.out.size)).mono hzf))
            go_wp2_with fail
            go_roundw
            case rel => exact ⟨k + 1, by omega, by go_num, HQF2, HBN⟩
            case measure => simp [intOf]; omega
          · have HQF2 : Hid (∀ f ∈ FL, NGF f) := Lib.hid (fun f hf => HQF.out f (by rw [List.take_of_length_le (by have := HN5.out; omega)]; exact hf))
            clear HQF
            have hkx : ¬ (k : Int) < (xn5 : Int) := by omega
            have HN0 : Hid (∀ s ∈ NL.take 0, s.length ≤ 300) := Lib.hid (fun x hx => by cases hx)
            go_wp2_with fail
            go_loopw [7] (fun iv wr4 => ∃ j : Nat, j ≤ xn3 ∧ iv = .int .i64 (j : Int) ∧ Hid (∀ s ∈ NL.take j, s.length ≤ 300) ∧ wr4 = wr3) (fun iv wr4 => xn3 - (intOf iv).toNat)
            case atStart => exact ⟨0, Nat.zero_le _, rfl, HN0, rfl⟩
            case round =>
              clear HN0
              rename World => wr4
              obtain ⟨j, hj, rfl, HQN, rfl⟩ := hrel
              by_cases hjl : j < xn3
              · have hjN : j < NL.length := by have := HN3.out; omega
                obtain ⟨b3, o3, rfl, c0⟩ := HNM.out.2 j hjN
                have HBR := HBA.out.trans (HBV.out.mono HBA.out.size)
                have r0 := (HBR.cell (p := ⟨_, _, none⟩) (lt_of_cell c0)).trans c0
                have z0 : NL[j].length = (⟨NL[j].toArray⟩ : ByteArray).size := by simp [ByteArray.size]
                have HZN : Hid ((⟨NL[j].toArray⟩ : ByteArray).size ≤ 300 → NL[j].length ≤ 300) := Lib.hid (fun h => by omega)
                generalize (⟨NL[j].toArray⟩ : ByteArray) = sx at *
                clear c0 z0 HBR
                have l1 : (j : Int).toNat = j := by omega
                have l2 : (0 : Int) ≤ (j : Int) := by omega
                have l3 : (j : Int) < (xn3 : Int) := by omega
                have pd := lt_of_cell r0
                by_cases hsz : (300 : Int) < (sx.size : Int)
                · skip
                  go_wp2_with fail
                  go_ret
                  exact ⟨true, rfl, (fun h => by cases h), HB.out.trans ((HBA.out.trans (HBV.out.mono HBA.out.size)).mono hz)⟩
                · have HQN2 : Hid (∀ s ∈ NL.take (j + 1), s.length ≤ 300) := Lib.hid (take_next HQN.out hjN (HZN.out (by omega)))
                  go_wp2_with fail
                  go_roundw
                  case rel => exact ⟨j + 1, by omega, by go_num, HQN2, by first | rfl | trivial⟩
                  case measure => simp [intOf]; omega
              · have HQN2 : Hid (∀ s ∈ NL, s.length ≤ 300) := Lib.hid (fun f hf => HQN.out f (by rw [List.take_of_length_le (by have := HN3.out; omega)]; exact hf))
                have HQ2 : Hid (∀ x ∈ L.take (i + 1), NGD x) := Lib.hid (take_next HQ.out hil (HNG.out (by first | exact rfl | trivial) (HG.out (by first | exact rfl | trivial)) (by have := Khs1.out; omega) (by have := Khs3.out; omega) (by have := Khs5.out; omega) HQF2.out HQN2.out))
                have HBN : Hid (Below w.heap.size w wr4) := Lib.hid (HB.out.trans ((HBA.out.trans (HBV.out.mono HBA.out.size)).mono hz))
                have hjx : ¬ (j : Int) < (xn3 : Int) := by omega
                clear HQN
                go_wp2_with fail
                go_roundw
                case rel => exact ⟨i + 1, by omega, by omega, by go_num, HQ2, HBN⟩
                case measure => simp [intOf]; omega
      · have h30i : ¬ (i : Int) < 30 := by omega
        have hini : (i : Int) < (n : Int) := by omega
        have hn20 : (20 : Int) < (n : Int) := by omega
        go_wp2_with fail
        go_ret
        exact ⟨true, ret_b (by simp; try omega), (fun h => by cases h), HB.out⟩
    · have hini : ¬ (i : Int) < (n : Int) := by omega
      by_cases h20 : (20 : Int) < (n : Int)
      · go_wp2_with fail
        go_ret
        exact ⟨true, ret_b (by simp; try omega), (fun h => by cases h), HB.out⟩
      · have HP : Hid (n ≤ 20 ∧ ∀ x ∈ L, NGD x) := Lib.hid ⟨by omega, fun x hx => HQ.out x (by rw [List.take_of_length_le (by have := HN.out; omega)]; exact hx)⟩
        go_wp2_with fail
        go_ret
        exact ⟨false, ret_b (by simp; try omega), (fun _ => HP.out), HB.out⟩
set_option maxRecDepth 100000 in
theorem g20_none (a : Option Addr) (c : Nat) (w : World) :
    Calls Tryz.prog 4 #[.slice a 0 c] w (GreatR (([] : List Dfn).length ≤ 20 ∧ ∀ x ∈ ([] : List Dfn), NGD x) w) := by
  have HP : Hid (([] : List Dfn).length ≤ 20 ∧ ∀ x ∈ ([] : List Dfn), NGD x) := Lib.hid ⟨by simp, fun x hx => by cases hx⟩
  go_enter Tryz.func4, Tryz.ntmps4
  go_wp2_with fail
  refine wp_loop_rounds 1 ?_; rw [rounds_succ]
  go_wp2_with fail
  go_ret
  exact ⟨false, rfl, fun _ => HP.out, Below.refl _ _⟩
theorem g20_any (L : List Dfn) (v : Value) (w : World) (hv : DfnSl v L w) (hb : DfnsB L) :
    Calls Tryz.prog 4 #[v] w (GreatR (L.length ≤ 20 ∧ ∀ x ∈ L, NGD x) w) := by
  rcases hv with ⟨a, c, rfl, rfl⟩ | ⟨b, off, cap, rfl, hrow, _⟩
  · exact g20_none a c w
  · exact g20_row L b off cap hb.1 w hrow hb.2
end Go.Proofs.YtgacpmdebjndkaaGreatDoor
