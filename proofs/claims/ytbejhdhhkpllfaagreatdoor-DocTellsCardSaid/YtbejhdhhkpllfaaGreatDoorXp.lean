/- The reference's May, Check (documents). -/
import Derived.Test.YtbejhdhhkpllfaaGreatDoorXl
import Derived.Test.YtbejhdhhkpllfaaGreatDoorXi
set_option linter.unusedSimpArgs false
set_option linter.unusedVariables false
namespace Go.Proofs.YtbejhdhhkpllfaaGreatDoor
open Go.RowKit
theorem any_not {α : Type} (l : List α) (p : α → Bool) : (!l.any fun v => !p v) = l.all p := by
  induction l with
  | nil => rfl
  | cons c r ih => rw [List.any_cons, List.all_cons, ← ih]; cases p c <;> rfl
def InpAt (a : Option Addr) (n : Nat) (L : List Inp) (w : World) : Prop := n = L.length ∧ (0 < L.length → ∃ b off, a = some ⟨b, off, none⟩ ∧ RowG 6 InpE ⟨b, off, none⟩ L w)
theorem inpAt_of {a : Option Addr} {n c : Nat} {F : List Inp} {w : World} (h : InpSl (.slice a n c) F w) : InpAt a n F w := by
  rcases h with ⟨a2, c2, e, rfl⟩ | ⟨b, off, c2, e, h, hp⟩
  · injection e with e1 e2 e3
    exact ⟨e2, fun h => absurd h (by simp)⟩
  · injection e with e1 e2 e3
    exact ⟨e2, fun _ => ⟨b, off, e1, h⟩⟩
set_option maxRecDepth 100000 in
set_option maxHeartbeats 16000000 in
theorem rdmay_go (L : List OpD) (M : List FrgD) (oa fa : Option Addr) (on_ oc fn_ fc : Nat) (w : World) (ho : OprAt oa on_ L w) (hf : FrgAt fa fn_ M w) (hl : L.length ≤ 100000) (hm : M.length ≤ 100000)
    (hso : ∀ x ∈ L, OprRm x) (hsf : ∀ x ∈ M, FrgRm x) :
    Calls Tryz.prog 16 #[.agg #[.slice oa on_ oc, .slice fa fn_ fc]] w fun e w' => e = .returned (.bool (decide (0 < L.length + M.length) && L.all oprB && M.all frgB)) ∧ Below w.heap.size w w' := by
  obtain ⟨Z1, hZ1⟩ : ∃ Z, L.all oprB = Z := ⟨_, rfl⟩
  obtain ⟨Z2, hZ2⟩ : ∃ Z, M.all frgB = Z := ⟨_, rfl⟩
  rw [hZ1, hZ2]
  have h0 : decide (0 < L.length + M.length) = decide ((0 : Int) < (on_ : Int) + (fn_ : Int)) := by rw [ho.1, hf.1, Bool.eq_iff_iff]; simp; omega
  rw [h0]
  have HZ0 : Hid ((L.drop 0).all oprB = Z1) := Lib.hid hZ1
  have HZ2 : Hid ((M.drop 0).all frgB = Z2) := Lib.hid hZ2
  have HO := Lib.hid ho
  have HFR := Lib.hid hf
  have HSO := Lib.hid hso
  have HSF := Lib.hid hsf
  have HNO : Hid (on_ = L.length) := Lib.hid ho.1
  have HNF : Hid (fn_ = M.length) := Lib.hid hf.1
  have hon : on_ ≤ 100000 := by rw [ho.1]; exact hl
  have hfn : fn_ ≤ 100000 := by rw [hf.1]; exact hm
  have sum1 : IntKind.i64.wrap ((on_ : Int) + (fn_ : Int)) = (on_ : Int) + (fn_ : Int) := IntWalk.i64_in _ (by omega)
  obtain ⟨m0, hm0⟩ : ∃ t : Bool, decide ((0 : Int) < (on_ : Int) + (fn_ : Int)) = t := ⟨_, rfl⟩
  rw [hm0]
  clear ho hf hl hm hso hsf hZ1 hZ2 h0
  go_enter Tryz.func16, Tryz.ntmps16
  go_upto_region 1 with fail
  obtain ⟨db, hdb⟩ : ∃ db, w.heap.size = db := ⟨_, rfl⟩
  obtain ⟨w1, hw1⟩ : ∃ w1, w.alloc (.cells #[.slice oa on_ oc, .slice fa fn_ fc] 25 (0, 0)) = w1 := ⟨_, rfl⟩
  have HBD : Hid (Below w.heap.size w w1) := Lib.hid (by rw [← hw1]; exact (Below.refl _ _).alloc (Nat.le_refl _) _)
  have kd : w1.heap[w.heap.size]? = some (.cells #[.slice oa on_ oc, .slice fa fn_ fc] 25 (0, 0)) := by rw [← hw1]; exact heap_new _ _ _ rfl
  rw [hdb] at kd
  have MD : Hid (∀ W, Below w1.heap.size w1 W → W.cell? ⟨db, 0, none⟩ = some (.slice oa on_ oc) ∧ W.cell? ⟨db, 1, none⟩ = some (.slice fa fn_ fc)) := Lib.hid fun W hW => ⟨(Lib.cell_of_heap ((hW.block _ (heap_lt kd)).trans kd) 0).trans rfl, (Lib.cell_of_heap ((hW.block _ (heap_lt kd)).trans kd) 1).trans rfl⟩
  obtain ⟨g0, g1⟩ := MD.out w1 (Below.refl _ _)
  try rw [hw1]
  try rw [hdb]
  clear hw1 kd hdb
  go_wp2_with fail
  go_loopw [3] (fun iv wr => ∃ i : Nat, i ≤ on_ ∧ iv = .int .i64 (i : Int) ∧ Hid ((L.drop i).all oprB = Z1) ∧ Hid (Below w1.heap.size w1 wr)) (fun iv wr => on_ - (intOf iv).toNat)
  case atStart => exact ⟨0, Nat.zero_le _, rfl, HZ0, Lib.hid (Below.refl _ _)⟩
  case round =>
    clear HZ0 g0 g1
    rename World => wr
    obtain ⟨i, hi, rfl, HQ, HB⟩ := hrel
    have hz := HB.out.size
    have HBR := Lib.hid (HBD.out.trans (HB.out.mono HBD.out.size))
    obtain ⟨g0, g1⟩ := MD.out wr HB.out
    by_cases hin : i < on_
    · as_aux_lemma =>
        have hil : i < L.length := by have := HNO.out; omega
        obtain ⟨b, off, rfl, hrow⟩ := HO.out.2 (by omega)
        obtain ⟨y0, y1, y2, y3, y4, y5, q0, q1, q2, q3, q4, yy, yz⟩ := Opr_at (RowG.below hrow fun _ _ h => OprE.below h HBR.out) i hil
        obtain ⟨⟨s1, s2, s3⟩, s4, s5⟩ := HSO.out L[i] (List.getElem_mem hil)
        have hq := HQ.out
        rw [List.drop_eq_getElem_cons hil, List.all_cons] at hq
        unfold oprB at hq
        rw [any_not] at hq
        obtain ⟨tN, htN⟩ : ∃ t, nameB L[i].name = t := ⟨_, rfl⟩
        obtain ⟨tS, htS⟩ : ∃ t, selsB L[i].sels L[i].many = t := ⟨_, rfl⟩
        obtain ⟨VL, hVL⟩ : ∃ V, L[i].vars = V := ⟨_, rfl⟩
        rw [hVL] at yy s2 hq
        obtain ⟨ZV, hZV⟩ : ∃ t, VL.all inDB = t := ⟨_, rfl⟩
        have HZV := Lib.hid hZV
        have HVA : Hid (InpAt y0 y1 VL wr) := Lib.hid (inpAt_of yy)
        have HVN : Hid (y1 = VL.length) := Lib.hid HVA.out.1
        have HVS := Lib.hid s2.2
        have hy1 : y1 ≤ 100000 := by rw [HVN.out]; exact s2.1
        have e1 : (⟨L[i].name.toArray⟩ : ByteArray).toList = L[i].name := by rw [ByteArray.toList_eq]
        have HN : Hid (∀ W, Below wr.heap.size wr W → Calls Tryz.prog 44 #[.string ⟨L[i].name.toArray⟩] W fun e w' => e = .returned (.bool tN) ∧ Below W.heap.size W w') := Lib.hid fun W _ => by rw [← htN]; exact calls_below (rname_big _ (by rw [← bsz]; exact Nat.le_trans s1 (by omega)) W)
        have HS : Hid (∀ W, Below wr.heap.size wr W → Calls Tryz.prog 45 #[.slice y3 y4 y5, .int .i64 L[i].many] W fun e w' => e = .returned (.bool tS) ∧ Below W.heap.size W w') := Lib.hid fun W hW => by rw [← htS]; exact rall_any L[i].sels _ _ W (SelSl.below yz hW) s3.1 s4 s5
        rw [htN, htS, hZV, ← e1, ← show ((L[i].kind.toNat : Int) == 1) = decide (L[i].kind.toNat = 1) from by rw [Bool.eq_iff_iff, beq_iff_eq, decide_eq_true_iff]; omega, ← show ((L[i].kind.toNat : Int) == 2) = decide (L[i].kind.toNat = 2) from by rw [Bool.eq_iff_iff, beq_iff_eq, decide_eq_true_iff]; omega] at hq
        clear htN htS hVL hZV e1 yy yz s1 s2 s3 s4 s5 hrow HQ
        generalize (⟨L[i].name.toArray⟩ : ByteArray) = x1 at *
        generalize (L[i].kind.toNat : Int) = kk at *
        generalize L[i].many = mm at *
        obtain ⟨k1, hk1⟩ : ∃ t : Bool, (kk == 1) = t := ⟨_, rfl⟩
        obtain ⟨k2, hk2⟩ : ∃ t : Bool, (kk == 2) = t := ⟨_, rfl⟩
        have hk1b : (kk != 1) = !k1 := by rw [bne, hk1]
        have hk2b : (kk != 2) = !k2 := by rw [bne, hk2]
        obtain ⟨zN, hzN⟩ : ∃ t : Bool, (x1.toList == []) = t := ⟨_, rfl⟩
        have hzNe : x1.toList.isEmpty = zN := by rw [← hzN]; cases x1.toList <;> rfl
        have hzNp : zN = true → x1.toList = [] := fun h => by rw [h] at hzN; simpa using hzN
        have hzNn : zN = false → ¬ x1.toList = [] := fun h => by rw [h] at hzN; simpa using hzN
        rw [hk1, hk2, hzNe] at hq
        have HQ2 := Lib.hid hq
        clear hq
        have i1 : (i : Int).toNat = i := by omega
        have i2 : (0 : Int) ≤ (i : Int) := by omega
        have i3 : (i : Int) < (on_ : Int) := by omega
        have pb := lt_of_cell q0
        go_upto_region 5 with fail
        obtain ⟨xb, hxb⟩ : ∃ xb, wr.heap.size = xb := ⟨_, rfl⟩
        obtain ⟨w2, hw2⟩ : ∃ w2, wr.alloc (.cells #[.int .u8 kk, .string x1, .slice y0 y1 y2, .int .i64 mm, .slice y3 y4 y5] 35 (0, 0)) = w2 := ⟨_, rfl⟩
        have HBA : Hid (Below wr.heap.size wr w2) := Lib.hid (by rw [← hw2]; exact (Below.refl _ _).alloc (Nat.le_refl _) _)
        have kb : w2.heap[wr.heap.size]? = some (.cells #[.int .u8 kk, .string x1, .slice y0 y1 y2, .int .i64 mm, .slice y3 y4 y5] 35 (0, 0)) := by rw [← hw2]; exact heap_new _ _ _ rfl
        rw [hxb] at kb
        have MK : Hid (∀ W, Below w2.heap.size w2 W → W.cell? ⟨xb, 0, none⟩ = some (.int .u8 kk) ∧ W.cell? ⟨xb, 1, none⟩ = some (.string x1) ∧ W.cell? ⟨xb, 2, none⟩ = some (.slice y0 y1 y2) ∧ W.cell? ⟨xb, 3, none⟩ = some (.int .i64 mm) ∧ W.cell? ⟨xb, 4, none⟩ = some (.slice y3 y4 y5)) := Lib.hid fun W hW => ⟨(Lib.cell_of_heap ((hW.block _ (heap_lt kb)).trans kb) 0).trans rfl, (Lib.cell_of_heap ((hW.block _ (heap_lt kb)).trans kb) 1).trans rfl, (Lib.cell_of_heap ((hW.block _ (heap_lt kb)).trans kb) 2).trans rfl, (Lib.cell_of_heap ((hW.block _ (heap_lt kb)).trans kb) 3).trans rfl, (Lib.cell_of_heap ((hW.block _ (heap_lt kb)).trans kb) 4).trans rfl⟩
        obtain ⟨d0, d1, d2, d3, d4⟩ := MK.out w2 (Below.refl _ _)
        try rw [hw2]
        try rw [hxb]
        have HBV : Hid (Below w2.heap.size w2 w2) := Lib.hid (Below.refl _ _)
        clear hw2 kb q0 q1 q2 q3 q4 pb
        cases k1 with
        | false =>
          cases k2 with
          | false =>
            have HF : Hid (false = Z1) := Lib.hid (by rw [← HQ2.out]; rfl)
            go_wp2_with fail
            go_ret
            exact ⟨ret_b (by rw [← HF.out]; simp), HBD.out.trans ((HB.out.trans ((HBA.out.trans (HBV.out.mono HBA.out.size)).mono hz)).mono HBD.out.size)⟩
          | true =>
            cases zN with
            | false =>
              have qzN := hzNn rfl
              cases tN with
              | false =>
                go_wp2_with fail
                refine (HN.out _ (HBA.out.trans (HBV.out.mono HBA.out.size))).mono ?_; rintro e w5 ⟨rfl, hb⟩
                have HBV2 : Hid (Below w2.heap.size w2 w5) := Lib.hid (HBV.out.trans (hb.mono HBV.out.size))
                obtain ⟨d0, d1, d2, d3, d4⟩ := MK.out w5 HBV2.out
                clear HBV hb
                have HBV := HBV2
                clear HBV2
                have HF : Hid (false = Z1) := Lib.hid (by rw [← HQ2.out]; rfl)
                go_wp2_with fail
                go_ret
                exact ⟨ret_b (by rw [← HF.out]; simp), HBD.out.trans ((HB.out.trans ((HBA.out.trans (HBV.out.mono HBA.out.size)).mono hz)).mono HBD.out.size)⟩
              | true =>
                go_wp2_with fail
                refine (HN.out _ (HBA.out.trans (HBV.out.mono HBA.out.size))).mono ?_; rintro e w5 ⟨rfl, hb⟩
                have HBV2 : Hid (Below w2.heap.size w2 w5) := Lib.hid (HBV.out.trans (hb.mono HBV.out.size))
                obtain ⟨d0, d1, d2, d3, d4⟩ := MK.out w5 HBV2.out
                clear HBV hb
                have HBV := HBV2
                clear HBV2
                cases tS with
                | false =>
                  go_wp2_with fail
                  refine (HS.out _ (HBA.out.trans (HBV.out.mono HBA.out.size))).mono ?_; rintro e w5 ⟨rfl, hb⟩
                  have HBV2 : Hid (Below w2.heap.size w2 w5) := Lib.hid (HBV.out.trans (hb.mono HBV.out.size))
                  obtain ⟨d0, d1, d2, d3, d4⟩ := MK.out w5 HBV2.out
                  clear HBV hb
                  have HBV := HBV2
                  clear HBV2
                  have HF : Hid (false = Z1) := Lib.hid (by rw [← HQ2.out]; rfl)
                  go_wp2_with fail
                  go_ret
                  exact ⟨ret_b (by rw [← HF.out]; simp), HBD.out.trans ((HB.out.trans ((HBA.out.trans (HBV.out.mono HBA.out.size)).mono hz)).mono HBD.out.size)⟩
                | true =>
                  go_wp2_with fail
                  refine (HS.out _ (HBA.out.trans (HBV.out.mono HBA.out.size))).mono ?_; rintro e w5 ⟨rfl, hb⟩
                  have HBV2 : Hid (Below w2.heap.size w2 w5) := Lib.hid (HBV.out.trans (hb.mono HBV.out.size))
                  obtain ⟨d0, d1, d2, d3, d4⟩ := MK.out w5 HBV2.out
                  clear HBV hb
                  have HBV := HBV2
                  clear HBV2
                  have HQ3 : Hid ((ZV && (L.drop (i + 1)).all oprB) = Z1) := Lib.hid (by rw [← HQ2.out]; rfl)
                  have HV0 : Hid ((VL.drop 0).all inDB = ZV) := Lib.hid HZV.out
                  clear HQ2
                  go_wp2_with fail
                  go_loopw [5] (fun kv wr3 => ∃ k : Nat, k ≤ y1 ∧ kv = .int .i64 (k : Int) ∧ Hid ((VL.drop k).all inDB = ZV) ∧ Hid (Below w2.heap.size w2 wr3)) (fun kv wr3 => y1 - (intOf kv).toNat)
                  case atStart => exact ⟨0, Nat.zero_le _, rfl, HV0, HBV⟩
                  case round =>
                    clear HV0 HBV d0 d1 d2 d3 d4
                    rename World => wr3
                    obtain ⟨k, hk, rfl, HQV, HBX⟩ := hrel
                    obtain ⟨d0, d1, d2, d3, d4⟩ := MK.out wr3 HBX.out
                    have hzx := HBX.out.size
                    by_cases hkl : k < y1
                    · have hkV : k < VL.length := by have := HVN.out; omega
                      obtain ⟨b2, o2, rfl, hrow2⟩ := HVA.out.2 (by omega)
                      obtain ⟨v0, v1, v2, v3, v4, v5, v6, v7, v8, p0, p1, p2, p3, p4, p5, yy2, yz2, yu2⟩ := inp_at (RowG.below hrow2 fun _ _ h => InpE.below h (HBA.out.trans (HBX.out.mono HBA.out.size))) k hkV
                      have sm := HVS.out VL[k] (List.getElem_mem hkV)
                      have hq := HQV.out
                      rw [List.drop_eq_getElem_cons hkV, List.all_cons] at hq
                      unfold inDB at hq
                      obtain ⟨tM, htM⟩ : ∃ t, mayI VL[k] = t := ⟨_, rfl⟩
                      obtain ⟨tE, htE⟩ : ∃ t, VL[k].dirs.isEmpty = t := ⟨_, rfl⟩
                      have HM : Hid (∀ W, Below wr3.heap.size wr3 W → Calls Tryz.prog 46 #[.agg #[.string ⟨VL[k].name.toArray⟩, .string ⟨VL[k].tnm.toArray⟩, .slice v0 v1 v2, .bool VL[k].has, .slice v3 v4 v5, .slice v6 v7 v8]] W fun e w' => e = .returned (.bool tM) ∧ Below W.heap.size W w') := Lib.hid fun W hW => by
                        rw [← htM]
                        exact rmi_any VL[k] _ W ⟨_, _, _, _, _, _, _, _, _, rfl, yy2.below hW, yz2.below hW, DirSlc.below yu2 hW⟩ sm
                      have hv7 : v7 = VL[k].dirs.length := xsl_len yu2
                      have hE1 : decide (0 < v7) = !tE := by
                        rw [← htE, hv7]; cases VL[k].dirs with
                        | nil => rfl
                        | cons c r => rw [List.length_cons, Bool.eq_iff_iff]; simp
                      have hE2 : decide ((0 : Int) < (v7 : Int)) = !tE := by rw [← hE1, Bool.eq_iff_iff]; simp
                      rw [htM, htE] at hq
                      have HQV2 := Lib.hid hq
                      clear hq htM htE hv7 yy2 yz2 yu2 sm HQV hrow2
                      generalize (⟨VL[k].name.toArray⟩ : ByteArray) = n1 at *
                      generalize (⟨VL[k].tnm.toArray⟩ : ByteArray) = n2 at *
                      generalize VL[k].has = n3 at *
                      have l1 : (k : Int).toNat = k := by omega
                      have l2 : (0 : Int) ≤ (k : Int) := by omega
                      have l3 : (k : Int) < (y1 : Int) := by omega
                      have pp := lt_of_cell p0
                      have pp5 := lt_of_cell p5
                      cases tM with
                      | false =>
                        have HF : Hid (false = Z1) := Lib.hid (by rw [← HQ3.out, ← HQV2.out]; rfl)
                        go_wp2_with fail
                        refine (HM.out _ (Below.refl _ _)).mono ?_; rintro e w6 ⟨rfl, hb⟩
                        have HBX2 : Hid (Below w2.heap.size w2 w6) := Lib.hid (HBX.out.trans (hb.mono hzx))
                        clear hb
                        go_wp2_with fail
                        go_ret
                        exact ⟨ret_b (by rw [← HF.out]; simp), HBD.out.trans ((HB.out.trans ((HBA.out.trans (HBX2.out.mono HBA.out.size)).mono hz)).mono HBD.out.size)⟩
                      | true =>
                        go_wp2_with fail
                        refine (HM.out _ (Below.refl _ _)).mono ?_; rintro e w6 ⟨rfl, hb⟩
                        have HBX2 : Hid (Below w2.heap.size w2 w6) := Lib.hid (HBX.out.trans (hb.mono hzx))
                        have p5' := (hb.cell (p := ⟨_, _, none⟩) pp5).trans p5
                        obtain ⟨d0, d1, d2, d3, d4⟩ := MK.out w6 HBX2.out
                        clear hb p0 p1 p2 p3 p4 p5
                        cases tE with
                        | false =>
                          have HF : Hid (false = Z1) := Lib.hid (by rw [← HQ3.out, ← HQV2.out]; rfl)
                          go_wp2_with fail
                          go_ret
                          exact ⟨ret_b (by rw [← HF.out]; simp), HBD.out.trans ((HB.out.trans ((HBA.out.trans (HBX2.out.mono HBA.out.size)).mono hz)).mono HBD.out.size)⟩
                        | true =>
                          have HQV3 : Hid ((VL.drop (k + 1)).all inDB = ZV) := Lib.hid (by rw [← HQV2.out]; rfl)
                          go_wp2_with fail
                          go_roundw
                          case rel => exact ⟨k + 1, by omega, by go_num, HQV3, HBX2⟩
                          case measure => simp [intOf]; omega
                    · have hZ : ZV = true := by
                        rw [← HQV.out, List.drop_of_length_le (by have := HVN.out; omega)]; rfl
                      have HF : Hid ((L.drop (i + 1)).all oprB = Z1) := Lib.hid (by rw [← HQ3.out, hZ]; rfl)
                      have HBN : Hid (Below w1.heap.size w1 wr3) := Lib.hid (HB.out.trans ((HBA.out.trans (HBX.out.mono HBA.out.size)).mono hz))
                      have l3 : ¬ (k : Int) < (y1 : Int) := by omega
                      clear hZ HQV
                      obtain ⟨u0, u1⟩ := MD.out wr3 HBN.out
                      go_wp2_with fail
                      go_roundw
                      case rel => exact ⟨i + 1, by omega, by go_num, HF, HBN⟩
                      case measure => simp [intOf]; omega
            | true =>
              have qzN := hzNp rfl
              cases tS with
              | false =>
                go_wp2_with fail
                refine (HS.out _ (HBA.out.trans (HBV.out.mono HBA.out.size))).mono ?_; rintro e w5 ⟨rfl, hb⟩
                have HBV2 : Hid (Below w2.heap.size w2 w5) := Lib.hid (HBV.out.trans (hb.mono HBV.out.size))
                obtain ⟨d0, d1, d2, d3, d4⟩ := MK.out w5 HBV2.out
                clear HBV hb
                have HBV := HBV2
                clear HBV2
                have HF : Hid (false = Z1) := Lib.hid (by rw [← HQ2.out]; rfl)
                go_wp2_with fail
                go_ret
                exact ⟨ret_b (by rw [← HF.out]; simp), HBD.out.trans ((HB.out.trans ((HBA.out.trans (HBV.out.mono HBA.out.size)).mono hz)).mono HBD.out.size)⟩
              | true =>
                go_wp2_with fail
                refine (HS.out _ (HBA.out.trans (HBV.out.mono HBA.out.size))).mono ?_; rintro e w5 ⟨rfl, hb⟩
                have HBV2 : Hid (Below w2.heap.size w2 w5) := Lib.hid (HBV.out.trans (hb.mono HBV.out.size))
                obtain ⟨d0, d1, d2, d3, d4⟩ := MK.out w5 HBV2.out
                clear HBV hb
                have HBV := HBV2
                clear HBV2
                have HQ3 : Hid ((ZV && (L.drop (i + 1)).all oprB) = Z1) := Lib.hid (by rw [← HQ2.out]; rfl)
                have HV0 : Hid ((VL.drop 0).all inDB = ZV) := Lib.hid HZV.out
                clear HQ2
                go_wp2_with fail
                go_loopw [5] (fun kv wr3 => ∃ k : Nat, k ≤ y1 ∧ kv = .int .i64 (k : Int) ∧ Hid ((VL.drop k).all inDB = ZV) ∧ Hid (Below w2.heap.size w2 wr3)) (fun kv wr3 => y1 - (intOf kv).toNat)
                case atStart => exact ⟨0, Nat.zero_le _, rfl, HV0, HBV⟩
                case round =>
                  clear HV0 HBV d0 d1 d2 d3 d4
                  rename World => wr3
                  obtain ⟨k, hk, rfl, HQV, HBX⟩ := hrel
                  obtain ⟨d0, d1, d2, d3, d4⟩ := MK.out wr3 HBX.out
                  have hzx := HBX.out.size
                  by_cases hkl : k < y1
                  · have hkV : k < VL.length := by have := HVN.out; omega
                    obtain ⟨b2, o2, rfl, hrow2⟩ := HVA.out.2 (by omega)
                    obtain ⟨v0, v1, v2, v3, v4, v5, v6, v7, v8, p0, p1, p2, p3, p4, p5, yy2, yz2, yu2⟩ := inp_at (RowG.below hrow2 fun _ _ h => InpE.below h (HBA.out.trans (HBX.out.mono HBA.out.size))) k hkV
                    have sm := HVS.out VL[k] (List.getElem_mem hkV)
                    have hq := HQV.out
                    rw [List.drop_eq_getElem_cons hkV, List.all_cons] at hq
                    unfold inDB at hq
                    obtain ⟨tM, htM⟩ : ∃ t, mayI VL[k] = t := ⟨_, rfl⟩
                    obtain ⟨tE, htE⟩ : ∃ t, VL[k].dirs.isEmpty = t := ⟨_, rfl⟩
                    have HM : Hid (∀ W, Below wr3.heap.size wr3 W → Calls Tryz.prog 46 #[.agg #[.string ⟨VL[k].name.toArray⟩, .string ⟨VL[k].tnm.toArray⟩, .slice v0 v1 v2, .bool VL[k].has, .slice v3 v4 v5, .slice v6 v7 v8]] W fun e w' => e = .returned (.bool tM) ∧ Below W.heap.size W w') := Lib.hid fun W hW => by
                      rw [← htM]
                      exact rmi_any VL[k] _ W ⟨_, _, _, _, _, _, _, _, _, rfl, yy2.below hW, yz2.below hW, DirSlc.below yu2 hW⟩ sm
                    have hv7 : v7 = VL[k].dirs.length := xsl_len yu2
                    have hE1 : decide (0 < v7) = !tE := by
                      rw [← htE, hv7]; cases VL[k].dirs with
                      | nil => rfl
                      | cons c r => rw [List.length_cons, Bool.eq_iff_iff]; simp
                    have hE2 : decide ((0 : Int) < (v7 : Int)) = !tE := by rw [← hE1, Bool.eq_iff_iff]; simp
                    rw [htM, htE] at hq
                    have HQV2 := Lib.hid hq
                    clear hq htM htE hv7 yy2 yz2 yu2 sm HQV hrow2
                    generalize (⟨VL[k].name.toArray⟩ : ByteArray) = n1 at *
                    generalize (⟨VL[k].tnm.toArray⟩ : ByteArray) = n2 at *
                    generalize VL[k].has = n3 at *
                    have l1 : (k : Int).toNat = k := by omega
                    have l2 : (0 : Int) ≤ (k : Int) := by omega
                    have l3 : (k : Int) < (y1 : Int) := by omega
                    have pp := lt_of_cell p0
                    have pp5 := lt_of_cell p5
                    cases tM with
                    | false =>
                      have HF : Hid (false = Z1) := Lib.hid (by rw [← HQ3.out, ← HQV2.out]; rfl)
                      go_wp2_with fail
                      refine (HM.out _ (Below.refl _ _)).mono ?_; rintro e w6 ⟨rfl, hb⟩
                      have HBX2 : Hid (Below w2.heap.size w2 w6) := Lib.hid (HBX.out.trans (hb.mono hzx))
                      clear hb
                      go_wp2_with fail
                      go_ret
                      exact ⟨ret_b (by rw [← HF.out]; simp), HBD.out.trans ((HB.out.trans ((HBA.out.trans (HBX2.out.mono HBA.out.size)).mono hz)).mono HBD.out.size)⟩
                    | true =>
                      go_wp2_with fail
                      refine (HM.out _ (Below.refl _ _)).mono ?_; rintro e w6 ⟨rfl, hb⟩
                      have HBX2 : Hid (Below w2.heap.size w2 w6) := Lib.hid (HBX.out.trans (hb.mono hzx))
                      have p5' := (hb.cell (p := ⟨_, _, none⟩) pp5).trans p5
                      obtain ⟨d0, d1, d2, d3, d4⟩ := MK.out w6 HBX2.out
                      clear hb p0 p1 p2 p3 p4 p5
                      cases tE with
                      | false =>
                        have HF : Hid (false = Z1) := Lib.hid (by rw [← HQ3.out, ← HQV2.out]; rfl)
                        go_wp2_with fail
                        go_ret
                        exact ⟨ret_b (by rw [← HF.out]; simp), HBD.out.trans ((HB.out.trans ((HBA.out.trans (HBX2.out.mono HBA.out.size)).mono hz)).mono HBD.out.size)⟩
                      | true =>
                        have HQV3 : Hid ((VL.drop (k + 1)).all inDB = ZV) := Lib.hid (by rw [← HQV2.out]; rfl)
                        go_wp2_with fail
                        go_roundw
                        case rel => exact ⟨k + 1, by omega, by go_num, HQV3, HBX2⟩
                        case measure => simp [intOf]; omega
                  · have hZ : ZV = true := by
                      rw [← HQV.out, List.drop_of_length_le (by have := HVN.out; omega)]; rfl
                    have HF : Hid ((L.drop (i + 1)).all oprB = Z1) := Lib.hid (by rw [← HQ3.out, hZ]; rfl)
                    have HBN : Hid (Below w1.heap.size w1 wr3) := Lib.hid (HB.out.trans ((HBA.out.trans (HBX.out.mono HBA.out.size)).mono hz))
                    have l3 : ¬ (k : Int) < (y1 : Int) := by omega
                    clear hZ HQV
                    obtain ⟨u0, u1⟩ := MD.out wr3 HBN.out
                    go_wp2_with fail
                    go_roundw
                    case rel => exact ⟨i + 1, by omega, by go_num, HF, HBN⟩
                    case measure => simp [intOf]; omega
        | true =>
          cases zN with
          | false =>
            have qzN := hzNn rfl
            cases tN with
            | false =>
              go_wp2_with fail
              refine (HN.out _ (HBA.out.trans (HBV.out.mono HBA.out.size))).mono ?_; rintro e w5 ⟨rfl, hb⟩
              have HBV2 : Hid (Below w2.heap.size w2 w5) := Lib.hid (HBV.out.trans (hb.mono HBV.out.size))
              obtain ⟨d0, d1, d2, d3, d4⟩ := MK.out w5 HBV2.out
              clear HBV hb
              have HBV := HBV2
              clear HBV2
              have HF : Hid (false = Z1) := Lib.hid (by rw [← HQ2.out]; rfl)
              go_wp2_with fail
              go_ret
              exact ⟨ret_b (by rw [← HF.out]; simp), HBD.out.trans ((HB.out.trans ((HBA.out.trans (HBV.out.mono HBA.out.size)).mono hz)).mono HBD.out.size)⟩
            | true =>
              go_wp2_with fail
              refine (HN.out _ (HBA.out.trans (HBV.out.mono HBA.out.size))).mono ?_; rintro e w5 ⟨rfl, hb⟩
              have HBV2 : Hid (Below w2.heap.size w2 w5) := Lib.hid (HBV.out.trans (hb.mono HBV.out.size))
              obtain ⟨d0, d1, d2, d3, d4⟩ := MK.out w5 HBV2.out
              clear HBV hb
              have HBV := HBV2
              clear HBV2
              cases tS with
              | false =>
                go_wp2_with fail
                refine (HS.out _ (HBA.out.trans (HBV.out.mono HBA.out.size))).mono ?_; rintro e w5 ⟨rfl, hb⟩
                have HBV2 : Hid (Below w2.heap.size w2 w5) := Lib.hid (HBV.out.trans (hb.mono HBV.out.size))
                obtain ⟨d0, d1, d2, d3, d4⟩ := MK.out w5 HBV2.out
                clear HBV hb
                have HBV := HBV2
                clear HBV2
                have HF : Hid (false = Z1) := Lib.hid (by rw [← HQ2.out]; rfl)
                go_wp2_with fail
                go_ret
                exact ⟨ret_b (by rw [← HF.out]; simp), HBD.out.trans ((HB.out.trans ((HBA.out.trans (HBV.out.mono HBA.out.size)).mono hz)).mono HBD.out.size)⟩
              | true =>
                go_wp2_with fail
                refine (HS.out _ (HBA.out.trans (HBV.out.mono HBA.out.size))).mono ?_; rintro e w5 ⟨rfl, hb⟩
                have HBV2 : Hid (Below w2.heap.size w2 w5) := Lib.hid (HBV.out.trans (hb.mono HBV.out.size))
                obtain ⟨d0, d1, d2, d3, d4⟩ := MK.out w5 HBV2.out
                clear HBV hb
                have HBV := HBV2
                clear HBV2
                have HQ3 : Hid ((ZV && (L.drop (i + 1)).all oprB) = Z1) := Lib.hid (by rw [← HQ2.out]; rfl)
                have HV0 : Hid ((VL.drop 0).all inDB = ZV) := Lib.hid HZV.out
                clear HQ2
                go_wp2_with fail
                go_loopw [5] (fun kv wr3 => ∃ k : Nat, k ≤ y1 ∧ kv = .int .i64 (k : Int) ∧ Hid ((VL.drop k).all inDB = ZV) ∧ Hid (Below w2.heap.size w2 wr3)) (fun kv wr3 => y1 - (intOf kv).toNat)
                case atStart => exact ⟨0, Nat.zero_le _, rfl, HV0, HBV⟩
                case round =>
                  clear HV0 HBV d0 d1 d2 d3 d4
                  rename World => wr3
                  obtain ⟨k, hk, rfl, HQV, HBX⟩ := hrel
                  obtain ⟨d0, d1, d2, d3, d4⟩ := MK.out wr3 HBX.out
                  have hzx := HBX.out.size
                  by_cases hkl : k < y1
                  · have hkV : k < VL.length := by have := HVN.out; omega
                    obtain ⟨b2, o2, rfl, hrow2⟩ := HVA.out.2 (by omega)
                    obtain ⟨v0, v1, v2, v3, v4, v5, v6, v7, v8, p0, p1, p2, p3, p4, p5, yy2, yz2, yu2⟩ := inp_at (RowG.below hrow2 fun _ _ h => InpE.below h (HBA.out.trans (HBX.out.mono HBA.out.size))) k hkV
                    have sm := HVS.out VL[k] (List.getElem_mem hkV)
                    have hq := HQV.out
                    rw [List.drop_eq_getElem_cons hkV, List.all_cons] at hq
                    unfold inDB at hq
                    obtain ⟨tM, htM⟩ : ∃ t, mayI VL[k] = t := ⟨_, rfl⟩
                    obtain ⟨tE, htE⟩ : ∃ t, VL[k].dirs.isEmpty = t := ⟨_, rfl⟩
                    have HM : Hid (∀ W, Below wr3.heap.size wr3 W → Calls Tryz.prog 46 #[.agg #[.string ⟨VL[k].name.toArray⟩, .string ⟨VL[k].tnm.toArray⟩, .slice v0 v1 v2, .bool VL[k].has, .slice v3 v4 v5, .slice v6 v7 v8]] W fun e w' => e = .returned (.bool tM) ∧ Below W.heap.size W w') := Lib.hid fun W hW => by
                      rw [← htM]
                      exact rmi_any VL[k] _ W ⟨_, _, _, _, _, _, _, _, _, rfl, yy2.below hW, yz2.below hW, DirSlc.below yu2 hW⟩ sm
                    have hv7 : v7 = VL[k].dirs.length := xsl_len yu2
                    have hE1 : decide (0 < v7) = !tE := by
                      rw [← htE, hv7]; cases VL[k].dirs with
                      | nil => rfl
                      | cons c r => rw [List.length_cons, Bool.eq_iff_iff]; simp
                    have hE2 : decide ((0 : Int) < (v7 : Int)) = !tE := by rw [← hE1, Bool.eq_iff_iff]; simp
                    rw [htM, htE] at hq
                    have HQV2 := Lib.hid hq
                    clear hq htM htE hv7 yy2 yz2 yu2 sm HQV hrow2
                    generalize (⟨VL[k].name.toArray⟩ : ByteArray) = n1 at *
                    generalize (⟨VL[k].tnm.toArray⟩ : ByteArray) = n2 at *
                    generalize VL[k].has = n3 at *
                    have l1 : (k : Int).toNat = k := by omega
                    have l2 : (0 : Int) ≤ (k : Int) := by omega
                    have l3 : (k : Int) < (y1 : Int) := by omega
                    have pp := lt_of_cell p0
                    have pp5 := lt_of_cell p5
                    cases tM with
                    | false =>
                      have HF : Hid (false = Z1) := Lib.hid (by rw [← HQ3.out, ← HQV2.out]; rfl)
                      go_wp2_with fail
                      refine (HM.out _ (Below.refl _ _)).mono ?_; rintro e w6 ⟨rfl, hb⟩
                      have HBX2 : Hid (Below w2.heap.size w2 w6) := Lib.hid (HBX.out.trans (hb.mono hzx))
                      clear hb
                      go_wp2_with fail
                      go_ret
                      exact ⟨ret_b (by rw [← HF.out]; simp), HBD.out.trans ((HB.out.trans ((HBA.out.trans (HBX2.out.mono HBA.out.size)).mono hz)).mono HBD.out.size)⟩
                    | true =>
                      go_wp2_with fail
                      refine (HM.out _ (Below.refl _ _)).mono ?_; rintro e w6 ⟨rfl, hb⟩
                      have HBX2 : Hid (Below w2.heap.size w2 w6) := Lib.hid (HBX.out.trans (hb.mono hzx))
                      have p5' := (hb.cell (p := ⟨_, _, none⟩) pp5).trans p5
                      obtain ⟨d0, d1, d2, d3, d4⟩ := MK.out w6 HBX2.out
                      clear hb p0 p1 p2 p3 p4 p5
                      cases tE with
                      | false =>
                        have HF : Hid (false = Z1) := Lib.hid (by rw [← HQ3.out, ← HQV2.out]; rfl)
                        go_wp2_with fail
                        go_ret
                        exact ⟨ret_b (by rw [← HF.out]; simp), HBD.out.trans ((HB.out.trans ((HBA.out.trans (HBX2.out.mono HBA.out.size)).mono hz)).mono HBD.out.size)⟩
                      | true =>
                        have HQV3 : Hid ((VL.drop (k + 1)).all inDB = ZV) := Lib.hid (by rw [← HQV2.out]; rfl)
                        go_wp2_with fail
                        go_roundw
                        case rel => exact ⟨k + 1, by omega, by go_num, HQV3, HBX2⟩
                        case measure => simp [intOf]; omega
                  · have hZ : ZV = true := by
                      rw [← HQV.out, List.drop_of_length_le (by have := HVN.out; omega)]; rfl
                    have HF : Hid ((L.drop (i + 1)).all oprB = Z1) := Lib.hid (by rw [← HQ3.out, hZ]; rfl)
                    have HBN : Hid (Below w1.heap.size w1 wr3) := Lib.hid (HB.out.trans ((HBA.out.trans (HBX.out.mono HBA.out.size)).mono hz))
                    have l3 : ¬ (k : Int) < (y1 : Int) := by omega
                    clear hZ HQV
                    obtain ⟨u0, u1⟩ := MD.out wr3 HBN.out
                    go_wp2_with fail
                    go_roundw
                    case rel => exact ⟨i + 1, by omega, by go_num, HF, HBN⟩
                    case measure => simp [intOf]; omega
          | true =>
            have qzN := hzNp rfl
            cases tS with
            | false =>
              go_wp2_with fail
              refine (HS.out _ (HBA.out.trans (HBV.out.mono HBA.out.size))).mono ?_; rintro e w5 ⟨rfl, hb⟩
              have HBV2 : Hid (Below w2.heap.size w2 w5) := Lib.hid (HBV.out.trans (hb.mono HBV.out.size))
              obtain ⟨d0, d1, d2, d3, d4⟩ := MK.out w5 HBV2.out
              clear HBV hb
              have HBV := HBV2
              clear HBV2
              have HF : Hid (false = Z1) := Lib.hid (by rw [← HQ2.out]; rfl)
              go_wp2_with fail
              go_ret
              exact ⟨ret_b (by rw [← HF.out]; simp), HBD.out.trans ((HB.out.trans ((HBA.out.trans (HBV.out.mono HBA.out.size)).mono hz)).mono HBD.out.size)⟩
            | true =>
              go_wp2_with fail
              refine (HS.out _ (HBA.out.trans (HBV.out.mono HBA.out.size))).mono ?_; rintro e w5 ⟨rfl, hb⟩
              have HBV2 : Hid (Below w2.heap.size w2 w5) := Lib.hid (HBV.out.trans (hb.mono HBV.out.size))
              obtain ⟨d0, d1, d2, d3, d4⟩ := MK.out w5 HBV2.out
              clear HBV hb
              have HBV := HBV2
              clear HBV2
              have HQ3 : Hid ((ZV && (L.drop (i + 1)).all oprB) = Z1) := Lib.hid (by rw [← HQ2.out]; rfl)
              have HV0 : Hid ((VL.drop 0).all inDB = ZV) := Lib.hid HZV.out
              clear HQ2
              go_wp2_with fail
              go_loopw [5] (fun kv wr3 => ∃ k : Nat, k ≤ y1 ∧ kv = .int .i64 (k : Int) ∧ Hid ((VL.drop k).all inDB = ZV) ∧ Hid (Below w2.heap.size w2 wr3)) (fun kv wr3 => y1 - (intOf kv).toNat)
              case atStart => exact ⟨0, Nat.zero_le _, rfl, HV0, HBV⟩
              case round =>
                clear HV0 HBV d0 d1 d2 d3 d4
                rename World => wr3
                obtain ⟨k, hk, rfl, HQV, HBX⟩ := hrel
                obtain ⟨d0, d1, d2, d3, d4⟩ := MK.out wr3 HBX.out
                have hzx := HBX.out.size
                by_cases hkl : k < y1
                · have hkV : k < VL.length := by have := HVN.out; omega
                  obtain ⟨b2, o2, rfl, hrow2⟩ := HVA.out.2 (by omega)
                  obtain ⟨v0, v1, v2, v3, v4, v5, v6, v7, v8, p0, p1, p2, p3, p4, p5, yy2, yz2, yu2⟩ := inp_at (RowG.below hrow2 fun _ _ h => InpE.below h (HBA.out.trans (HBX.out.mono HBA.out.size))) k hkV
                  have sm := HVS.out VL[k] (List.getElem_mem hkV)
                  have hq := HQV.out
                  rw [List.drop_eq_getElem_cons hkV, List.all_cons] at hq
                  unfold inDB at hq
                  obtain ⟨tM, htM⟩ : ∃ t, mayI VL[k] = t := ⟨_, rfl⟩
                  obtain ⟨tE, htE⟩ : ∃ t, VL[k].dirs.isEmpty = t := ⟨_, rfl⟩
                  have HM : Hid (∀ W, Below wr3.heap.size wr3 W → Calls Tryz.prog 46 #[.agg #[.string ⟨VL[k].name.toArray⟩, .string ⟨VL[k].tnm.toArray⟩, .slice v0 v1 v2, .bool VL[k].has, .slice v3 v4 v5, .slice v6 v7 v8]] W fun e w' => e = .returned (.bool tM) ∧ Below W.heap.size W w') := Lib.hid fun W hW => by
                    rw [← htM]
                    exact rmi_any VL[k] _ W ⟨_, _, _, _, _, _, _, _, _, rfl, yy2.below hW, yz2.below hW, DirSlc.below yu2 hW⟩ sm
                  have hv7 : v7 = VL[k].dirs.length := xsl_len yu2
                  have hE1 : decide (0 < v7) = !tE := by
                    rw [← htE, hv7]; cases VL[k].dirs with
                    | nil => rfl
                    | cons c r => rw [List.length_cons, Bool.eq_iff_iff]; simp
                  have hE2 : decide ((0 : Int) < (v7 : Int)) = !tE := by rw [← hE1, Bool.eq_iff_iff]; simp
                  rw [htM, htE] at hq
                  have HQV2 := Lib.hid hq
                  clear hq htM htE hv7 yy2 yz2 yu2 sm HQV hrow2
                  generalize (⟨VL[k].name.toArray⟩ : ByteArray) = n1 at *
                  generalize (⟨VL[k].tnm.toArray⟩ : ByteArray) = n2 at *
                  generalize VL[k].has = n3 at *
                  have l1 : (k : Int).toNat = k := by omega
                  have l2 : (0 : Int) ≤ (k : Int) := by omega
                  have l3 : (k : Int) < (y1 : Int) := by omega
                  have pp := lt_of_cell p0
                  have pp5 := lt_of_cell p5
                  cases tM with
                  | false =>
                    have HF : Hid (false = Z1) := Lib.hid (by rw [← HQ3.out, ← HQV2.out]; rfl)
                    go_wp2_with fail
                    refine (HM.out _ (Below.refl _ _)).mono ?_; rintro e w6 ⟨rfl, hb⟩
                    have HBX2 : Hid (Below w2.heap.size w2 w6) := Lib.hid (HBX.out.trans (hb.mono hzx))
                    clear hb
                    go_wp2_with fail
                    go_ret
                    exact ⟨ret_b (by rw [← HF.out]; simp), HBD.out.trans ((HB.out.trans ((HBA.out.trans (HBX2.out.mono HBA.out.size)).mono hz)).mono HBD.out.size)⟩
                  | true =>
                    go_wp2_with fail
                    refine (HM.out _ (Below.refl _ _)).mono ?_; rintro e w6 ⟨rfl, hb⟩
                    have HBX2 : Hid (Below w2.heap.size w2 w6) := Lib.hid (HBX.out.trans (hb.mono hzx))
                    have p5' := (hb.cell (p := ⟨_, _, none⟩) pp5).trans p5
                    obtain ⟨d0, d1, d2, d3, d4⟩ := MK.out w6 HBX2.out
                    clear hb p0 p1 p2 p3 p4 p5
                    cases tE with
                    | false =>
                      have HF : Hid (false = Z1) := Lib.hid (by rw [← HQ3.out, ← HQV2.out]; rfl)
                      go_wp2_with fail
                      go_ret
                      exact ⟨ret_b (by rw [← HF.out]; simp), HBD.out.trans ((HB.out.trans ((HBA.out.trans (HBX2.out.mono HBA.out.size)).mono hz)).mono HBD.out.size)⟩
                    | true =>
                      have HQV3 : Hid ((VL.drop (k + 1)).all inDB = ZV) := Lib.hid (by rw [← HQV2.out]; rfl)
                      go_wp2_with fail
                      go_roundw
                      case rel => exact ⟨k + 1, by omega, by go_num, HQV3, HBX2⟩
                      case measure => simp [intOf]; omega
                · have hZ : ZV = true := by
                    rw [← HQV.out, List.drop_of_length_le (by have := HVN.out; omega)]; rfl
                  have HF : Hid ((L.drop (i + 1)).all oprB = Z1) := Lib.hid (by rw [← HQ3.out, hZ]; rfl)
                  have HBN : Hid (Below w1.heap.size w1 wr3) := Lib.hid (HB.out.trans ((HBA.out.trans (HBX.out.mono HBA.out.size)).mono hz))
                  have l3 : ¬ (k : Int) < (y1 : Int) := by omega
                  clear hZ HQV
                  obtain ⟨u0, u1⟩ := MD.out wr3 HBN.out
                  go_wp2_with fail
                  go_roundw
                  case rel => exact ⟨i + 1, by omega, by go_num, HF, HBN⟩
                  case measure => simp [intOf]; omega
    · have HZT : Hid (true = Z1) := Lib.hid (by
        rw [← HQ.out, List.drop_of_length_le (by have := HNO.out; omega)]; rfl)
      clear HQ
      have i3 : ¬ (i : Int) < (on_ : Int) := by omega
      go_wp2_with fail
      go_loopw [6] (fun jv wr2 => ∃ j : Nat, j ≤ fn_ ∧ jv = .int .i64 (j : Int) ∧ Hid ((M.drop j).all frgB = Z2) ∧ Hid (Below w1.heap.size w1 wr2)) (fun jv wr2 => fn_ - (intOf jv).toNat)
      case atStart => exact ⟨0, Nat.zero_le _, rfl, HZ2, HB⟩
      case round =>
        clear HZ2 g0 g1 HB HBR hz
        rename_i wr' wr _
        obtain ⟨j, hj, rfl, HQ, HB⟩ := hrel
        have hz := HB.out.size
        have HBR := Lib.hid (HBD.out.trans (HB.out.mono HBD.out.size))
        obtain ⟨g0, g1⟩ := MD.out wr HB.out
        by_cases hjn : j < fn_
        · as_aux_lemma =>
            have hil : j < M.length := by have := HNF.out; omega
            obtain ⟨b, off, rfl, hrow⟩ := HFR.out.2 (by omega)
            obtain ⟨y0, y1, y2, q0, q1, q2, q3, yy⟩ := Frg_at (RowG.below hrow fun _ _ h => FrgE.below h HBR.out) j hil
            obtain ⟨⟨s1, s2, s3⟩, s4, s5⟩ := HSF.out M[j] (List.getElem_mem hil)
            have hq := HQ.out
            rw [List.drop_eq_getElem_cons hil, List.all_cons] at hq
            unfold frgB at hq
            obtain ⟨tN, htN⟩ : ∃ t, nameB M[j].name = t := ⟨_, rfl⟩
            obtain ⟨tO, htO⟩ : ∃ t, nameB M[j].on = t := ⟨_, rfl⟩
            obtain ⟨tS, htS⟩ : ∃ t, selsB M[j].sels M[j].many = t := ⟨_, rfl⟩
            have e1 : (⟨M[j].name.toArray⟩ : ByteArray).toList = M[j].name := by rw [ByteArray.toList_eq]
            have HN : Hid (∀ W, Below wr.heap.size wr W → Calls Tryz.prog 44 #[.string ⟨M[j].name.toArray⟩] W fun e w' => e = .returned (.bool tN) ∧ Below W.heap.size W w') := Lib.hid fun W _ => by rw [← htN]; exact calls_below (rname_big _ (by rw [← bsz]; exact s1) W)
            have HO : Hid (∀ W, Below wr.heap.size wr W → Calls Tryz.prog 44 #[.string ⟨M[j].on.toArray⟩] W fun e w' => e = .returned (.bool tO) ∧ Below W.heap.size W w') := Lib.hid fun W _ => by rw [← htO]; exact calls_below (rname_big _ (by rw [← bsz]; exact s2) W)
            have HS : Hid (∀ W, Below wr.heap.size wr W → Calls Tryz.prog 45 #[.slice y0 y1 y2, .int .i64 M[j].many] W fun e w' => e = .returned (.bool tS) ∧ Below W.heap.size W w') := Lib.hid fun W hW => by rw [← htS]; exact rall_any M[j].sels _ _ W (SelSl.below yy hW) s3.1 s4 s5
            rw [htN, htO, htS, ← e1] at hq
            clear htN htO htS e1 yy s1 s2 s3 s4 s5 hrow HQ
            generalize (⟨M[j].name.toArray⟩ : ByteArray) = x1 at *
            generalize (⟨M[j].on.toArray⟩ : ByteArray) = x2 at *
            generalize M[j].many = mm at *
            obtain ⟨on, hon⟩ : ∃ t : Bool, (x1.toList == [111, 110]) = t := ⟨_, rfl⟩
            have hone : (x1.toList != [111, 110]) = !on := by rw [← hon]; rfl
            have honp : on = true → x1.toList = [111, 110] := fun h => by rw [h] at hon; exact beq_iff_eq.1 hon
            have honn : on = false → ¬ x1.toList = [111, 110] := fun h => by rw [h] at hon; exact beq_eq_false_iff_ne.1 hon
            rw [hon] at hq
            have HQ2 := Lib.hid hq
            clear hq
            have i1 : (j : Int).toNat = j := by omega
            have i2 : (0 : Int) ≤ (j : Int) := by omega
            have i3 : (j : Int) < (fn_ : Int) := by omega
            have pb := lt_of_cell q0
            go_upto_region 16 with fail
            obtain ⟨xb, hxb⟩ : ∃ xb, wr.heap.size = xb := ⟨_, rfl⟩
            obtain ⟨w2, hw2⟩ : ∃ w2, wr.alloc (.cells #[.string x1, .string x2, .int .i64 mm, .slice y0 y1 y2] 38 (0, 0)) = w2 := ⟨_, rfl⟩
            have HBA : Hid (Below wr.heap.size wr w2) := Lib.hid (by rw [← hw2]; exact (Below.refl _ _).alloc (Nat.le_refl _) _)
            have kb : w2.heap[wr.heap.size]? = some (.cells #[.string x1, .string x2, .int .i64 mm, .slice y0 y1 y2] 38 (0, 0)) := by rw [← hw2]; exact heap_new _ _ _ rfl
            rw [hxb] at kb
            have MK : Hid (∀ W, Below w2.heap.size w2 W → W.cell? ⟨xb, 0, none⟩ = some (.string x1) ∧ W.cell? ⟨xb, 1, none⟩ = some (.string x2) ∧ W.cell? ⟨xb, 2, none⟩ = some (.int .i64 mm) ∧ W.cell? ⟨xb, 3, none⟩ = some (.slice y0 y1 y2)) := Lib.hid fun W hW => ⟨(Lib.cell_of_heap ((hW.block _ (heap_lt kb)).trans kb) 0).trans rfl, (Lib.cell_of_heap ((hW.block _ (heap_lt kb)).trans kb) 1).trans rfl, (Lib.cell_of_heap ((hW.block _ (heap_lt kb)).trans kb) 2).trans rfl, (Lib.cell_of_heap ((hW.block _ (heap_lt kb)).trans kb) 3).trans rfl⟩
            obtain ⟨d0, d1, d2, d3⟩ := MK.out w2 (Below.refl _ _)
            try rw [hw2]
            try rw [hxb]
            have HBV : Hid (Below w2.heap.size w2 w2) := Lib.hid (Below.refl _ _)
            clear hw2 kb q0 q1 q2 q3 pb
            cases tN with
            | false =>
              go_wp2_with fail
              refine (HN.out _ (HBA.out.trans (HBV.out.mono HBA.out.size))).mono ?_; rintro e w5 ⟨rfl, hb⟩
              have HBV2 : Hid (Below w2.heap.size w2 w5) := Lib.hid (HBV.out.trans (hb.mono HBV.out.size))
              obtain ⟨d0, d1, d2, d3⟩ := MK.out w5 HBV2.out
              clear HBV hb
              have HBV := HBV2
              clear HBV2
              have HF : Hid (false = Z2) := Lib.hid (by rw [← HQ2.out]; rfl)
              go_wp2_with fail
              go_ret
              exact ⟨ret_b (by rw [← HF.out]; simp), HBD.out.trans ((HB.out.trans ((HBA.out.trans (HBV.out.mono HBA.out.size)).mono hz)).mono HBD.out.size)⟩
            | true =>
              go_wp2_with fail
              refine (HN.out _ (HBA.out.trans (HBV.out.mono HBA.out.size))).mono ?_; rintro e w5 ⟨rfl, hb⟩
              have HBV2 : Hid (Below w2.heap.size w2 w5) := Lib.hid (HBV.out.trans (hb.mono HBV.out.size))
              obtain ⟨d0, d1, d2, d3⟩ := MK.out w5 HBV2.out
              clear HBV hb
              have HBV := HBV2
              clear HBV2
              cases on with
              | false =>
                have qon := honn rfl
                cases tO with
                | false =>
                  go_wp2_with fail
                  refine (HO.out _ (HBA.out.trans (HBV.out.mono HBA.out.size))).mono ?_; rintro e w5 ⟨rfl, hb⟩
                  have HBV2 : Hid (Below w2.heap.size w2 w5) := Lib.hid (HBV.out.trans (hb.mono HBV.out.size))
                  obtain ⟨d0, d1, d2, d3⟩ := MK.out w5 HBV2.out
                  clear HBV hb
                  have HBV := HBV2
                  clear HBV2
                  have HF : Hid (false = Z2) := Lib.hid (by rw [← HQ2.out]; rfl)
                  go_wp2_with fail
                  go_ret
                  exact ⟨ret_b (by rw [← HF.out]; simp), HBD.out.trans ((HB.out.trans ((HBA.out.trans (HBV.out.mono HBA.out.size)).mono hz)).mono HBD.out.size)⟩
                | true =>
                  go_wp2_with fail
                  refine (HO.out _ (HBA.out.trans (HBV.out.mono HBA.out.size))).mono ?_; rintro e w5 ⟨rfl, hb⟩
                  have HBV2 : Hid (Below w2.heap.size w2 w5) := Lib.hid (HBV.out.trans (hb.mono HBV.out.size))
                  obtain ⟨d0, d1, d2, d3⟩ := MK.out w5 HBV2.out
                  clear HBV hb
                  have HBV := HBV2
                  clear HBV2
                  cases tS with
                  | false =>
                    go_wp2_with fail
                    refine (HS.out _ (HBA.out.trans (HBV.out.mono HBA.out.size))).mono ?_; rintro e w5 ⟨rfl, hb⟩
                    have HBV2 : Hid (Below w2.heap.size w2 w5) := Lib.hid (HBV.out.trans (hb.mono HBV.out.size))
                    obtain ⟨d0, d1, d2, d3⟩ := MK.out w5 HBV2.out
                    clear HBV hb
                    have HBV := HBV2
                    clear HBV2
                    have HF : Hid (false = Z2) := Lib.hid (by rw [← HQ2.out]; rfl)
                    go_wp2_with fail
                    go_ret
                    exact ⟨ret_b (by rw [← HF.out]; simp), HBD.out.trans ((HB.out.trans ((HBA.out.trans (HBV.out.mono HBA.out.size)).mono hz)).mono HBD.out.size)⟩
                  | true =>
                    go_wp2_with fail
                    refine (HS.out _ (HBA.out.trans (HBV.out.mono HBA.out.size))).mono ?_; rintro e w5 ⟨rfl, hb⟩
                    have HBV2 : Hid (Below w2.heap.size w2 w5) := Lib.hid (HBV.out.trans (hb.mono HBV.out.size))
                    obtain ⟨d0, d1, d2, d3⟩ := MK.out w5 HBV2.out
                    clear HBV hb
                    have HBV := HBV2
                    clear HBV2
                    have HF : Hid ((M.drop (j + 1)).all frgB = Z2) := Lib.hid (by rw [← HQ2.out]; rfl)
                    have HBN : Hid (Below w1.heap.size w1 _) := Lib.hid (HB.out.trans ((HBA.out.trans (HBV.out.mono HBA.out.size)).mono hz))
                    obtain ⟨u0, u1⟩ := MD.out _ HBN.out
                    go_wp2_with fail
                    go_roundw
                    case rel => exact ⟨j + 1, by omega, by go_num, HF, HBN⟩
                    case measure => simp [intOf]; omega
              | true =>
                have qon := honp rfl
                have HF : Hid (false = Z2) := Lib.hid (by rw [← HQ2.out]; rfl)
                go_wp2_with fail
                go_ret
                exact ⟨ret_b (by rw [← HF.out]; simp), HBD.out.trans ((HB.out.trans ((HBA.out.trans (HBV.out.mono HBA.out.size)).mono hz)).mono HBD.out.size)⟩
        · have HF : Hid (true = Z2) := Lib.hid (by
            rw [← HQ.out, List.drop_of_length_le (by have := HNF.out; omega)]; rfl)
          clear HQ
          have i4 : ¬ (j : Int) < (fn_ : Int) := by omega
          go_wp2_with fail
          go_ret
          exact ⟨ret_b (by rw [← HZT.out, ← HF.out]; simp), HBR.out⟩
theorem rdmay_any (x : DocD) (v : Value) (w : World) (hv : DocV v x w) (hl : x.ops.length ≤ 100000) (hm : x.frags.length ≤ 100000) (hso : ∀ y ∈ x.ops, OprRm y) (hsf : ∀ y ∈ x.frags, FrgRm y) :
    Calls Tryz.prog 16 #[v] w fun e w' => e = .returned (.bool (docB x)) ∧ Below w.heap.size w w' := by
  obtain ⟨_, _, _, _, _, _, rfl, h1, h2⟩ := hv
  exact rdmay_go x.ops x.frags _ _ _ _ _ _ w (oprAt_of h1) (frgAt_of h2) hl hm hso hsf
set_option maxRecDepth 100000 in
theorem rdchk_any (x : DocD) (v : Value) (w : World) (hv : DocV v x w) (hl : x.ops.length ≤ 100000) (hm : x.frags.length ≤ 100000) (hso : ∀ y ∈ x.ops, OprRm y) (hsf : ∀ y ∈ x.frags, FrgRm y) :
    Calls Tryz.prog 6 #[v] w fun e w' => e = .returned (.int .i64 (cond (docB x) 0 8)) ∧ Below w.heap.size w w' := by
  have HC := Lib.hid fun W (hW : Below w.heap.size w W) => rdmay_any x v W (hv.below hW) hl hm hso hsf
  obtain ⟨oa, on_, oc, fa, fn_, fc, rfl, h1, h2⟩ := hv
  clear h1 h2 hl hm hso hsf
  generalize docB x = t at *
  cases t with
  | true =>
    go_enter Tryz.func6, Tryz.ntmps6
    go_wp2_with fail
    refine (HC.out _ ((Below.refl _ _).alloc (Nat.le_refl _) _)).mono ?_; rintro e w5 ⟨rfl, hb⟩
    have HB := Lib.hid (((Below.refl w.heap.size w).alloc (Nat.le_refl _) (.cells #[.slice oa on_ oc, .slice fa fn_ fc] 25 (0, 0))).trans (hb.mono (by simp)))
    clear hb
    go_wp2_with fail
    go_ret
    exact ⟨rfl, HB.out⟩
  | false =>
    go_enter Tryz.func6, Tryz.ntmps6
    go_wp2_with fail
    refine (HC.out _ ((Below.refl _ _).alloc (Nat.le_refl _) _)).mono ?_; rintro e w5 ⟨rfl, hb⟩
    have HB := Lib.hid (((Below.refl w.heap.size w).alloc (Nat.le_refl _) (.cells #[.slice oa on_ oc, .slice fa fn_ fc] 25 (0, 0))).trans (hb.mono (by simp)))
    clear hb
    go_wp2_with fail
    go_ret
    exact ⟨rfl, HB.out⟩
end Go.Proofs.YtbejhdhhkpllfaaGreatDoor
