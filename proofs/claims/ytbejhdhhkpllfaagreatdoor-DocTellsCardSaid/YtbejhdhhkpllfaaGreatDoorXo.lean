/- The reference's Same (documents): equality. -/
import Derived.Test.YtbejhdhhkpllfaaGreatDoorXf
import Derived.Test.YtbejhdhhkpllfaaGreatDoorXi
import Derived.BigRegion
import Derived.Deep.DeepCutAuto
set_option linter.unusedSimpArgs false
set_option linter.unusedVariables false
namespace Go.Proofs.YtbejhdhhkpllfaaGreatDoor
open Go.RowKit
theorem two_blocks (wr : World) (A B : Obj) (W : World) (hW : Below ((wr.alloc A).alloc B).drew.heap.size ((wr.alloc A).alloc B).drew W) : W.heap[wr.heap.size]? = some A ∧ W.heap[wr.heap.size + 1]? = some B := by
  have k1 : ((wr.alloc A).alloc B).drew.heap[wr.heap.size]? = some A := heap_old (heap_new _ _ _ rfl)
  have k2 : ((wr.alloc A).alloc B).drew.heap[wr.heap.size + 1]? = some B := heap_new _ _ _ (by simp)
  exact ⟨(hW.block _ (heap_lt k1)).trans k1, (hW.block _ (heap_lt k2)).trans k2⟩
set_option maxRecDepth 100000 in
theorem rsame_len (oa fa ob fb : Option Addr) (on_ oc fn_ fc om pc fm qc : Nat) (h1 : on_ ≤ 100000) (h2 : fn_ ≤ 100000) (h3 : om ≤ 100000) (h4 : fm ≤ 100000) (t1 t2 : Bool) (ht1 : ((on_ : Int) != (om : Int)) = t1) (ht2 : ((fn_ : Int) != (fm : Int)) = t2) (hne : (t1 || t2) = true) (w : World) :
    Calls Tryz.prog 8 #[.agg #[.slice oa on_ oc, .slice fa fn_ fc], .agg #[.slice ob om pc, .slice fb fm qc]] w fun e w' => e = .returned (.bool false) ∧ Below w.heap.size w w' := by
  cases t1 with
  | true =>
    go_enter Tryz.func8, Tryz.ntmps8
    go_wp2_with fail
    go_ret
    exact ⟨rfl, ((Below.refl _ _).alloc (Nat.le_refl _) _).alloc (by simp) _⟩
  | false =>
    cases t2 with
    | false => cases hne
    | true =>
      go_enter Tryz.func8, Tryz.ntmps8
      go_wp2_with fail
      go_ret
      exact ⟨rfl, ((Below.refl _ _).alloc (Nat.le_refl _) _).alloc (by simp) _⟩
set_option maxRecDepth 100000 in
set_option maxHeartbeats 16000000 in
theorem rsame_go (L LM : List OpD) (M MM : List FrgD) (oa fa ob fb : Option Addr) (on_ oc fn_ fc pc qc : Nat) (w : World) (ho : OprAt oa on_ L w) (hf : FrgAt fa fn_ M w) (ho2 : OprAt ob on_ LM w) (hf2 : FrgAt fb fn_ MM w) (hl : L.length ≤ 100000) (hm : M.length ≤ 100000)
    (hsl : ∀ x ∈ L, OprSm x) (hsl2 : ∀ x ∈ LM, OprSm x) (hsm : ∀ x ∈ M, FrgSm x) (hsm2 : ∀ x ∈ MM, FrgSm x) :
    Calls Tryz.prog 8 #[.agg #[.slice oa on_ oc, .slice fa fn_ fc], .agg #[.slice ob on_ pc, .slice fb fn_ qc]] w fun e w' => e = .returned (.bool (eqB L LM && eqB M MM)) ∧ Below w.heap.size w w' := by
  obtain ⟨Z, hZ⟩ : ∃ Z, eqB L LM = Z := ⟨_, rfl⟩
  obtain ⟨Z2, hZ2⟩ : ∃ Z, eqB M MM = Z := ⟨_, rfl⟩
  have HZ0 : Hid (eqB (L.drop 0) (LM.drop 0) = Z) := Lib.hid hZ
  have HZ2 : Hid (eqB (M.drop 0) (MM.drop 0) = Z2) := Lib.hid hZ2
  rw [hZ, hZ2]
  have HA1 := Lib.hid ho
  have HA2 := Lib.hid ho2
  have HA3 := Lib.hid hf
  have HA4 := Lib.hid hf2
  have HSL := Lib.hid hsl
  have HSLM := Lib.hid hsl2
  have HSM := Lib.hid hsm
  have HSMM := Lib.hid hsm2
  have HNL : Hid (on_ = L.length ∧ on_ = LM.length) := Lib.hid ⟨ho.1, ho2.1⟩
  have HNM : Hid (fn_ = M.length ∧ fn_ = MM.length) := Lib.hid ⟨hf.1, hf2.1⟩
  have hon : on_ ≤ 100000 := by rw [ho.1]; exact hl
  have hfn : fn_ ≤ 100000 := by rw [hf.1]; exact hm
  have hne1 : ((on_ : Int) != (on_ : Int)) = false := by rw [bne_eq_false_iff_eq]
  have hne2 : ((fn_ : Int) != (fn_ : Int)) = false := by rw [bne_eq_false_iff_eq]
  clear hZ hZ2 ho ho2 hf hf2 hl hm hsl hsl2 hsm hsm2
  go_enter Tryz.func8, Tryz.ntmps8
  go_upto_region 1 with fail
  obtain ⟨w1, hw1⟩ : ∃ w1, (w.alloc (.cells #[.slice oa on_ oc, .slice fa fn_ fc] 25 (0, 0))).alloc (.cells #[.slice ob on_ pc, .slice fb fn_ qc] 25 (0, 0)) = w1 := ⟨_, rfl⟩
  have HBD : Hid (Below w.heap.size w w1) := Lib.hid (by rw [← hw1]; exact ((Below.refl _ _).alloc (Nat.le_refl _) _).alloc (by simp) _)
  have k0 : w1.heap[w.heap.size]? = some (.cells #[.slice oa on_ oc, .slice fa fn_ fc] 25 (0, 0)) := by rw [← hw1]; exact heap_old (heap_new _ _ _ rfl)
  have k1 : w1.heap[w.heap.size + 1]? = some (.cells #[.slice ob on_ pc, .slice fb fn_ qc] 25 (0, 0)) := by rw [← hw1]; exact heap_new _ _ _ (by simp)
  try rw [hw1]
  obtain ⟨da, hda⟩ : ∃ x, w.heap.size = x := ⟨_, rfl⟩
  obtain ⟨db, hdb⟩ : ∃ x, w.heap.size + 1 = x := ⟨_, rfl⟩
  rw [hdb] at k1
  rw [hda] at k0
  try rw [hdb]
  try rw [hda]
  have MD : Hid (∀ W, Below w1.heap.size w1 W → W.cell? ⟨da, 0, none⟩ = some (.slice oa on_ oc) ∧ W.cell? ⟨da, 1, none⟩ = some (.slice fa fn_ fc) ∧ W.cell? ⟨db, 0, none⟩ = some (.slice ob on_ pc) ∧ W.cell? ⟨db, 1, none⟩ = some (.slice fb fn_ qc)) := Lib.hid fun W hW => ⟨(Lib.cell_of_heap ((hW.block _ (heap_lt k0)).trans k0) 0).trans rfl, (Lib.cell_of_heap ((hW.block _ (heap_lt k0)).trans k0) 1).trans rfl, (Lib.cell_of_heap ((hW.block _ (heap_lt k1)).trans k1) 0).trans rfl, (Lib.cell_of_heap ((hW.block _ (heap_lt k1)).trans k1) 1).trans rfl⟩
  obtain ⟨g0, g1, g2, g3⟩ := MD.out w1 (Below.refl _ _)
  clear hw1 k0 k1 hda hdb
  go_wp2_with fail
  go_loopw [5] (fun iv wr => ∃ i : Nat, i ≤ on_ ∧ iv = .int .i64 (i : Int) ∧ Hid (eqB (L.drop i) (LM.drop i) = Z) ∧ Hid (Below w1.heap.size w1 wr)) (fun iv wr => on_ - (intOf iv).toNat)
  case atStart => exact ⟨0, Nat.zero_le _, rfl, HZ0, Lib.hid (Below.refl _ _)⟩
  case round =>
    clear HZ0 g0 g1 g2 g3
    rename World => wr
    obtain ⟨i, hi, rfl, HQ, HB⟩ := hrel
    have hz := HB.out.size
    have HBR := Lib.hid (HBD.out.trans (HB.out.mono HBD.out.size))
    obtain ⟨g0, g1, g2, g3⟩ := MD.out wr HB.out
    by_cases hin : i < on_
    · as_aux_lemma =>
        have hil : i < L.length := by have := HNL.out.1; omega
        have him : i < LM.length := by have := HNL.out.2; omega
        obtain ⟨b1, o1, rfl, h1⟩ := HA1.out.2 (by omega)
        obtain ⟨b2, o2, rfl, h2⟩ := HA2.out.2 (by omega)
        obtain ⟨y0, y1, y2, y3, y4, y5, yq0, yq1, yq2, yq3, yq4, yy, yz⟩ := Opr_at (RowG.below h1 fun _ _ h => OprE.below h HBR.out) i hil
        obtain ⟨z0, z1, z2, z3, z4, z5, zq0, zq1, zq2, zq3, zq4, zy, zz⟩ := Opr_at (RowG.below h2 fun _ _ h => OprE.below h HBR.out) i him
        have sm1 := HSL.out L[i] (List.getElem_mem hil)
        have sm2 := HSLM.out LM[i] (List.getElem_mem him)
        have hq := HQ.out
        rw [eqB_drop _ _ i hil him, eqB_OprG] at hq
        obtain ⟨t0, ht0⟩ : ∃ t : Bool, eqB L[i].kind LM[i].kind = t := ⟨_, rfl⟩
        rw [ht0] at hq
        have he0 := (eqB_kind L[i].kind LM[i].kind).trans ht0
        obtain ⟨t1, ht1⟩ : ∃ t : Bool, eqB L[i].name LM[i].name = t := ⟨_, rfl⟩
        rw [ht1] at hq
        have he1 := (eqB_str L[i].name LM[i].name).trans ht1
        obtain ⟨t2, ht2⟩ : ∃ t : Bool, eqB L[i].many LM[i].many = t := ⟨_, rfl⟩
        rw [ht2] at hq
        have he2 := (eqB_int L[i].many LM[i].many).trans ht2
        obtain ⟨t3, ht3⟩ : ∃ t : Bool, (eqB L[i].vars LM[i].vars) = t := ⟨_, rfl⟩
        have HC3 : Hid (∀ W, Below wr.heap.size wr W → Calls Tryz.prog 29 #[.slice y0 y1 y2, .slice z0 z1 z2] W fun e w' => e = .returned (.bool t3) ∧ Below W.heap.size W w') := Lib.hid fun W hW => by
          rw [← ht3]
          exact rsi_eq _ _ _ _ W (InpSl.below yy hW) (InpSl.below zy hW) sm1.2.1 sm2.2.1
        rw [ht3] at hq
        obtain ⟨t4, ht4⟩ : ∃ t : Bool, (eqB L[i].sels LM[i].sels) = t := ⟨_, rfl⟩
        have HC4 : Hid (∀ W, Below wr.heap.size wr W → Calls Tryz.prog 30 #[.slice y3 y4 y5, .slice z3 z4 z5] W fun e w' => e = .returned (.bool t4) ∧ Below W.heap.size W w') := Lib.hid fun W hW => by
          rw [← ht4]
          exact rss_eq _ _ _ _ W (SelSl.below yz hW) (SelSl.below zz hW) sm1.2.2 sm2.2.2
        rw [ht4] at hq
        have HQ2 := Lib.hid hq
        clear hq HQ sm1 sm2 h1 h2 ht0 ht1 ht2 ht3 ht4 yy yz zy zz
        generalize (L[i].kind.toNat : Int) = kk at *
        generalize L[i].many = mm at *
        generalize (LM[i].kind.toNat : Int) = kkm at *
        generalize LM[i].many = mmm at *
        generalize (⟨L[i].name.toArray⟩ : ByteArray) = x0 at *
        generalize (⟨LM[i].name.toArray⟩ : ByteArray) = x0m at *
        have i1 : (i : Int).toNat = i := by omega
        have i2 : (0 : Int) ≤ (i : Int) := by omega
        have i3 : (i : Int) < (on_ : Int) := by omega
        have pb := lt_of_cell yq0
        have qb := lt_of_cell zq0
        have pd0 := lt_of_cell g0
        have pd2 := lt_of_cell g2
        go_upto_region 6 with fail
        go_cut [6, 7] (fun sp sq w2 => ∃ p q : Nat, sp = .pointer (some ⟨p, 0, none⟩) ∧ sq = .pointer (some ⟨q, 0, none⟩) ∧ Hid (Below wr.heap.size wr w2) ∧ Hid (∀ W, Below w2.heap.size w2 W → W.cell? ⟨p, 0, none⟩ = some (.int .u8 kk) ∧ W.cell? ⟨p, 1, none⟩ = some (.string x0) ∧ W.cell? ⟨p, 2, none⟩ = some (.slice y0 y1 y2) ∧ W.cell? ⟨p, 3, none⟩ = some (.int .i64 mm) ∧ W.cell? ⟨p, 4, none⟩ = some (.slice y3 y4 y5) ∧ W.cell? ⟨q, 0, none⟩ = some (.int .u8 kkm) ∧ W.cell? ⟨q, 1, none⟩ = some (.string x0m) ∧ W.cell? ⟨q, 2, none⟩ = some (.slice z0 z1 z2) ∧ W.cell? ⟨q, 3, none⟩ = some (.int .i64 mmm) ∧ W.cell? ⟨q, 4, none⟩ = some (.slice z3 z4 z5)))
        case first =>
          go_region
          · go_wp2_with fail
            go_meet
            refine ⟨wr.heap.size, wr.heap.size + 1, rfl, rfl, Lib.hid (((Below.refl _ _).alloc (Nat.le_refl _) _).alloc (by simp) _).drew, Lib.hid fun W hW => ?_⟩
            have hb := two_blocks wr _ _ W hW
            exact ⟨(Lib.cell_of_heap hb.1 0).trans rfl, (Lib.cell_of_heap hb.1 1).trans rfl, (Lib.cell_of_heap hb.1 2).trans rfl, (Lib.cell_of_heap hb.1 3).trans rfl, (Lib.cell_of_heap hb.1 4).trans rfl, (Lib.cell_of_heap hb.2 0).trans rfl, (Lib.cell_of_heap hb.2 1).trans rfl, (Lib.cell_of_heap hb.2 2).trans rfl, (Lib.cell_of_heap hb.2 3).trans rfl, (Lib.cell_of_heap hb.2 4).trans rfl⟩
          · go_wp2_with fail
            go_meet
            refine ⟨wr.heap.size + 1, wr.heap.size, rfl, rfl, Lib.hid (((Below.refl _ _).alloc (Nat.le_refl _) _).alloc (by simp) _).drew, Lib.hid fun W hW => ?_⟩
            have hb := two_blocks wr _ _ W hW
            exact ⟨(Lib.cell_of_heap hb.2 0).trans rfl, (Lib.cell_of_heap hb.2 1).trans rfl, (Lib.cell_of_heap hb.2 2).trans rfl, (Lib.cell_of_heap hb.2 3).trans rfl, (Lib.cell_of_heap hb.2 4).trans rfl, (Lib.cell_of_heap hb.1 0).trans rfl, (Lib.cell_of_heap hb.1 1).trans rfl, (Lib.cell_of_heap hb.1 2).trans rfl, (Lib.cell_of_heap hb.1 3).trans rfl, (Lib.cell_of_heap hb.1 4).trans rfl⟩
        case rest =>
          obtain ⟨p, q, rfl, rfl, HBA, MK⟩ := hcut
          rename World => w2
          clear yq0 yq1 yq2 yq3 yq4 zq0 zq1 zq2 zq3 zq4 pb qb g0 g1 g2 g3
          obtain ⟨d0, d1, d2, d3, d4, d5, d6, d7, d8, d9⟩ := MK.out w2 (Below.refl _ _)
          have HBV : Hid (Below w2.heap.size w2 w2) := Lib.hid (Below.refl _ _)
          cases t0 with
          | false =>
            have hf0 : (kk != kkm) = true := by rw [bne, he0]; rfl
            have hg0 : ¬ kk = kkm := beq_eq_false_iff_ne.1 he0
            have HF : Hid (false = Z) := Lib.hid (by rw [← HQ2.out]; rfl)
            have HBN : Hid (Below w1.heap.size w1 _) := Lib.hid (HB.out.trans ((HBA.out.trans (HBV.out.mono HBA.out.size)).mono hz))
            go_wp2_with fail
            go_ret
            exact ⟨ret_b (by rw [← HF.out]; rfl), HBD.out.trans (HBN.out.mono HBD.out.size)⟩
          | true =>
            have hf0 : (kk != kkm) = false := by rw [bne, he0]; rfl
            have hg0 : kk = kkm := beq_iff_eq.1 he0
            cases t1 with
            | false =>
              have hf1 : (x0.toList != x0m.toList) = true := by rw [bne, he1]; rfl
              have hg1 : ¬ x0.toList = x0m.toList := beq_eq_false_iff_ne.1 he1
              have HF : Hid (false = Z) := Lib.hid (by rw [← HQ2.out]; rfl)
              have HBN : Hid (Below w1.heap.size w1 _) := Lib.hid (HB.out.trans ((HBA.out.trans (HBV.out.mono HBA.out.size)).mono hz))
              go_wp2_with fail
              go_ret
              exact ⟨ret_b (by rw [← HF.out]; rfl), HBD.out.trans (HBN.out.mono HBD.out.size)⟩
            | true =>
              have hf1 : (x0.toList != x0m.toList) = false := by rw [bne, he1]; rfl
              have hg1 : x0.toList = x0m.toList := beq_iff_eq.1 he1
              cases t2 with
              | false =>
                have hf2 : (mm != mmm) = true := by rw [bne, he2]; rfl
                have hg2 : ¬ mm = mmm := beq_eq_false_iff_ne.1 he2
                have HF : Hid (false = Z) := Lib.hid (by rw [← HQ2.out]; rfl)
                have HBN : Hid (Below w1.heap.size w1 _) := Lib.hid (HB.out.trans ((HBA.out.trans (HBV.out.mono HBA.out.size)).mono hz))
                go_wp2_with fail
                go_ret
                exact ⟨ret_b (by rw [← HF.out]; rfl), HBD.out.trans (HBN.out.mono HBD.out.size)⟩
              | true =>
                have hf2 : (mm != mmm) = false := by rw [bne, he2]; rfl
                have hg2 : mm = mmm := beq_iff_eq.1 he2
                cases t3 with
                | false =>
                  go_wp2_with fail
                  refine (HC3.out _ (HBA.out.trans (HBV.out.mono HBA.out.size))).mono ?_; rintro e w5 ⟨rfl, hb⟩
                  have HBV2 : Hid (Below w2.heap.size w2 w5) := Lib.hid (HBV.out.trans (hb.mono HBV.out.size))
                  clear HBV hb
                  have HBV := HBV2
                  clear HBV2
                  have HF : Hid (false = Z) := Lib.hid (by rw [← HQ2.out]; rfl)
                  have HBN : Hid (Below w1.heap.size w1 _) := Lib.hid (HB.out.trans ((HBA.out.trans (HBV.out.mono HBA.out.size)).mono hz))
                  go_wp2_with fail
                  go_ret
                  exact ⟨ret_b (by rw [← HF.out]; rfl), HBD.out.trans (HBN.out.mono HBD.out.size)⟩
                | true =>
                  go_wp2_with fail
                  refine (HC3.out _ (HBA.out.trans (HBV.out.mono HBA.out.size))).mono ?_; rintro e w5 ⟨rfl, hb⟩
                  have HBV2 : Hid (Below w2.heap.size w2 w5) := Lib.hid (HBV.out.trans (hb.mono HBV.out.size))
                  obtain ⟨d0, d1, d2, d3, d4, d5, d6, d7, d8, d9⟩ := MK.out w5 HBV2.out
                  clear HBV hb
                  have HBV := HBV2
                  clear HBV2
                  cases t4 with
                  | false =>
                    go_wp2_with fail
                    refine (HC4.out _ (HBA.out.trans (HBV.out.mono HBA.out.size))).mono ?_; rintro e w5 ⟨rfl, hb⟩
                    have HBV2 : Hid (Below w2.heap.size w2 w5) := Lib.hid (HBV.out.trans (hb.mono HBV.out.size))
                    clear HBV hb
                    have HBV := HBV2
                    clear HBV2
                    have HF : Hid (false = Z) := Lib.hid (by rw [← HQ2.out]; rfl)
                    have HBN : Hid (Below w1.heap.size w1 _) := Lib.hid (HB.out.trans ((HBA.out.trans (HBV.out.mono HBA.out.size)).mono hz))
                    go_wp2_with fail
                    go_ret
                    exact ⟨ret_b (by rw [← HF.out]; rfl), HBD.out.trans (HBN.out.mono HBD.out.size)⟩
                  | true =>
                    go_wp2_with fail
                    refine (HC4.out _ (HBA.out.trans (HBV.out.mono HBA.out.size))).mono ?_; rintro e w5 ⟨rfl, hb⟩
                    have HBV2 : Hid (Below w2.heap.size w2 w5) := Lib.hid (HBV.out.trans (hb.mono HBV.out.size))
                    clear HBV hb
                    have HBV := HBV2
                    clear HBV2
                    have HF : Hid (eqB (L.drop (i + 1)) (LM.drop (i + 1)) = Z) := Lib.hid (by rw [← HQ2.out]; rfl)
                    have HBN : Hid (Below w1.heap.size w1 _) := Lib.hid (HB.out.trans ((HBA.out.trans (HBV.out.mono HBA.out.size)).mono hz))
                    obtain ⟨u0, u1, u2, u3⟩ := MD.out _ HBN.out
                    go_wp2_with fail
                    go_roundw
                    case rel => exact ⟨i + 1, by omega, by go_num, HF, HBN⟩
                    case measure => simp [intOf]; omega
    · have HZT : Hid (true = Z) := Lib.hid (by
        rw [← HQ.out, List.drop_of_length_le (by have := HNL.out.1; omega), List.drop_of_length_le (by have := HNL.out.2; omega)]
        exact (eqB_self _).symm)
      clear HQ
      have i3 : ¬ (i : Int) < (on_ : Int) := by omega
      go_wp2_with fail
      go_loopw [8] (fun jv wr2 => ∃ j : Nat, j ≤ fn_ ∧ jv = .int .i64 (j : Int) ∧ Hid (eqB (M.drop j) (MM.drop j) = Z2) ∧ Hid (Below w1.heap.size w1 wr2)) (fun jv wr2 => fn_ - (intOf jv).toNat)
      case atStart => exact ⟨0, Nat.zero_le _, rfl, HZ2, HB⟩
      case round =>
        clear HZ2 g0 g1 g2 g3 HB HBR hz
        rename_i wr' wr _
        obtain ⟨j, hj, rfl, HQ, HB⟩ := hrel
        have hz := HB.out.size
        have HBR := Lib.hid (HBD.out.trans (HB.out.mono HBD.out.size))
        obtain ⟨g0, g1, g2, g3⟩ := MD.out wr HB.out
        by_cases hjn : j < fn_
        · as_aux_lemma =>
            have hil : j < M.length := by have := HNM.out.1; omega
            have him : j < MM.length := by have := HNM.out.2; omega
            obtain ⟨b1, o1, rfl, h1⟩ := HA3.out.2 (by omega)
            obtain ⟨b2, o2, rfl, h2⟩ := HA4.out.2 (by omega)
            obtain ⟨y0, y1, y2, yq0, yq1, yq2, yq3, yy⟩ := Frg_at (RowG.below h1 fun _ _ h => FrgE.below h HBR.out) j hil
            obtain ⟨z0, z1, z2, zq0, zq1, zq2, zq3, zy⟩ := Frg_at (RowG.below h2 fun _ _ h => FrgE.below h HBR.out) j him
            have sm1 := HSM.out M[j] (List.getElem_mem hil)
            have sm2 := HSMM.out MM[j] (List.getElem_mem him)
            have hq := HQ.out
            rw [eqB_drop _ _ j hil him, eqB_Frg] at hq
            obtain ⟨t0, ht0⟩ : ∃ t : Bool, eqB M[j].name MM[j].name = t := ⟨_, rfl⟩
            rw [ht0] at hq
            have he0 := (eqB_str M[j].name MM[j].name).trans ht0
            obtain ⟨t1, ht1⟩ : ∃ t : Bool, eqB M[j].on MM[j].on = t := ⟨_, rfl⟩
            rw [ht1] at hq
            have he1 := (eqB_str M[j].on MM[j].on).trans ht1
            obtain ⟨t2, ht2⟩ : ∃ t : Bool, eqB M[j].many MM[j].many = t := ⟨_, rfl⟩
            rw [ht2] at hq
            have he2 := (eqB_int M[j].many MM[j].many).trans ht2
            obtain ⟨t3, ht3⟩ : ∃ t : Bool, (eqB M[j].sels MM[j].sels) = t := ⟨_, rfl⟩
            have HC3 : Hid (∀ W, Below wr.heap.size wr W → Calls Tryz.prog 30 #[.slice y0 y1 y2, .slice z0 z1 z2] W fun e w' => e = .returned (.bool t3) ∧ Below W.heap.size W w') := Lib.hid fun W hW => by
              rw [← ht3]
              exact rss_eq _ _ _ _ W (SelSl.below yy hW) (SelSl.below zy hW) sm1.2.2 sm2.2.2
            rw [ht3] at hq
            have HQ2 := Lib.hid hq
            clear hq HQ sm1 sm2 h1 h2 ht0 ht1 ht2 ht3 yy zy
            generalize M[j].many = mm at *
            generalize MM[j].many = mmm at *
            generalize (⟨M[j].name.toArray⟩ : ByteArray) = x0 at *
            generalize (⟨MM[j].name.toArray⟩ : ByteArray) = x0m at *
            generalize (⟨M[j].on.toArray⟩ : ByteArray) = x1 at *
            generalize (⟨MM[j].on.toArray⟩ : ByteArray) = x1m at *
            have i1 : (j : Int).toNat = j := by omega
            have i2 : (0 : Int) ≤ (j : Int) := by omega
            have i3 : (j : Int) < (fn_ : Int) := by omega
            have pb := lt_of_cell yq0
            have qb := lt_of_cell zq0
            have pd0 := lt_of_cell g0
            have pd2 := lt_of_cell g2
            go_upto_region 12 with fail
            go_cut [9, 10] (fun sp sq w2 => ∃ p q : Nat, sp = .pointer (some ⟨p, 0, none⟩) ∧ sq = .pointer (some ⟨q, 0, none⟩) ∧ Hid (Below wr.heap.size wr w2) ∧ Hid (∀ W, Below w2.heap.size w2 W → W.cell? ⟨p, 0, none⟩ = some (.string x0) ∧ W.cell? ⟨p, 1, none⟩ = some (.string x1) ∧ W.cell? ⟨p, 2, none⟩ = some (.int .i64 mm) ∧ W.cell? ⟨p, 3, none⟩ = some (.slice y0 y1 y2) ∧ W.cell? ⟨q, 0, none⟩ = some (.string x0m) ∧ W.cell? ⟨q, 1, none⟩ = some (.string x1m) ∧ W.cell? ⟨q, 2, none⟩ = some (.int .i64 mmm) ∧ W.cell? ⟨q, 3, none⟩ = some (.slice z0 z1 z2)))
            case first =>
              go_region
              · go_wp2_with fail
                go_meet
                refine ⟨wr.heap.size, wr.heap.size + 1, rfl, rfl, Lib.hid (((Below.refl _ _).alloc (Nat.le_refl _) _).alloc (by simp) _).drew, Lib.hid fun W hW => ?_⟩
                have hb := two_blocks wr _ _ W hW
                exact ⟨(Lib.cell_of_heap hb.1 0).trans rfl, (Lib.cell_of_heap hb.1 1).trans rfl, (Lib.cell_of_heap hb.1 2).trans rfl, (Lib.cell_of_heap hb.1 3).trans rfl, (Lib.cell_of_heap hb.2 0).trans rfl, (Lib.cell_of_heap hb.2 1).trans rfl, (Lib.cell_of_heap hb.2 2).trans rfl, (Lib.cell_of_heap hb.2 3).trans rfl⟩
              · go_wp2_with fail
                go_meet
                refine ⟨wr.heap.size + 1, wr.heap.size, rfl, rfl, Lib.hid (((Below.refl _ _).alloc (Nat.le_refl _) _).alloc (by simp) _).drew, Lib.hid fun W hW => ?_⟩
                have hb := two_blocks wr _ _ W hW
                exact ⟨(Lib.cell_of_heap hb.2 0).trans rfl, (Lib.cell_of_heap hb.2 1).trans rfl, (Lib.cell_of_heap hb.2 2).trans rfl, (Lib.cell_of_heap hb.2 3).trans rfl, (Lib.cell_of_heap hb.1 0).trans rfl, (Lib.cell_of_heap hb.1 1).trans rfl, (Lib.cell_of_heap hb.1 2).trans rfl, (Lib.cell_of_heap hb.1 3).trans rfl⟩
            case rest =>
              obtain ⟨p, q, rfl, rfl, HBA, MK⟩ := hcut
              rename World => w2
              clear yq0 yq1 yq2 yq3 zq0 zq1 zq2 zq3 pb qb g0 g1 g2 g3
              obtain ⟨d0, d1, d2, d3, d4, d5, d6, d7⟩ := MK.out w2 (Below.refl _ _)
              have HBV : Hid (Below w2.heap.size w2 w2) := Lib.hid (Below.refl _ _)
              cases t0 with
              | false =>
                have hf0 : (x0.toList != x0m.toList) = true := by rw [bne, he0]; rfl
                have hg0 : ¬ x0.toList = x0m.toList := beq_eq_false_iff_ne.1 he0
                have HF : Hid (false = Z2) := Lib.hid (by rw [← HQ2.out]; rfl)
                have HBN : Hid (Below w1.heap.size w1 _) := Lib.hid (HB.out.trans ((HBA.out.trans (HBV.out.mono HBA.out.size)).mono hz))
                go_wp2_with fail
                go_ret
                exact ⟨ret_b (by rw [← HZT.out, ← HF.out]; rfl), HBD.out.trans (HBN.out.mono HBD.out.size)⟩
              | true =>
                have hf0 : (x0.toList != x0m.toList) = false := by rw [bne, he0]; rfl
                have hg0 : x0.toList = x0m.toList := beq_iff_eq.1 he0
                cases t1 with
                | false =>
                  have hf1 : (x1.toList != x1m.toList) = true := by rw [bne, he1]; rfl
                  have hg1 : ¬ x1.toList = x1m.toList := beq_eq_false_iff_ne.1 he1
                  have HF : Hid (false = Z2) := Lib.hid (by rw [← HQ2.out]; rfl)
                  have HBN : Hid (Below w1.heap.size w1 _) := Lib.hid (HB.out.trans ((HBA.out.trans (HBV.out.mono HBA.out.size)).mono hz))
                  go_wp2_with fail
                  go_ret
                  exact ⟨ret_b (by rw [← HZT.out, ← HF.out]; rfl), HBD.out.trans (HBN.out.mono HBD.out.size)⟩
                | true =>
                  have hf1 : (x1.toList != x1m.toList) = false := by rw [bne, he1]; rfl
                  have hg1 : x1.toList = x1m.toList := beq_iff_eq.1 he1
                  cases t2 with
                  | false =>
                    have hf2 : (mm != mmm) = true := by rw [bne, he2]; rfl
                    have hg2 : ¬ mm = mmm := beq_eq_false_iff_ne.1 he2
                    have HF : Hid (false = Z2) := Lib.hid (by rw [← HQ2.out]; rfl)
                    have HBN : Hid (Below w1.heap.size w1 _) := Lib.hid (HB.out.trans ((HBA.out.trans (HBV.out.mono HBA.out.size)).mono hz))
                    go_wp2_with fail
                    go_ret
                    exact ⟨ret_b (by rw [← HZT.out, ← HF.out]; rfl), HBD.out.trans (HBN.out.mono HBD.out.size)⟩
                  | true =>
                    have hf2 : (mm != mmm) = false := by rw [bne, he2]; rfl
                    have hg2 : mm = mmm := beq_iff_eq.1 he2
                    cases t3 with
                    | false =>
                      go_wp2_with fail
                      refine (HC3.out _ (HBA.out.trans (HBV.out.mono HBA.out.size))).mono ?_; rintro e w5 ⟨rfl, hb⟩
                      have HBV2 : Hid (Below w2.heap.size w2 w5) := Lib.hid (HBV.out.trans (hb.mono HBV.out.size))
                      clear HBV hb
                      have HBV := HBV2
                      clear HBV2
                      have HF : Hid (false = Z2) := Lib.hid (by rw [← HQ2.out]; rfl)
                      have HBN : Hid (Below w1.heap.size w1 _) := Lib.hid (HB.out.trans ((HBA.out.trans (HBV.out.mono HBA.out.size)).mono hz))
                      go_wp2_with fail
                      go_ret
                      exact ⟨ret_b (by rw [← HZT.out, ← HF.out]; rfl), HBD.out.trans (HBN.out.mono HBD.out.size)⟩
                    | true =>
                      go_wp2_with fail
                      refine (HC3.out _ (HBA.out.trans (HBV.out.mono HBA.out.size))).mono ?_; rintro e w5 ⟨rfl, hb⟩
                      have HBV2 : Hid (Below w2.heap.size w2 w5) := Lib.hid (HBV.out.trans (hb.mono HBV.out.size))
                      clear HBV hb
                      have HBV := HBV2
                      clear HBV2
                      have HF : Hid (eqB (M.drop (j + 1)) (MM.drop (j + 1)) = Z2) := Lib.hid (by rw [← HQ2.out]; rfl)
                      have HBN : Hid (Below w1.heap.size w1 _) := Lib.hid (HB.out.trans ((HBA.out.trans (HBV.out.mono HBA.out.size)).mono hz))
                      obtain ⟨u0, u1, u2, u3⟩ := MD.out _ HBN.out
                      go_wp2_with fail
                      go_roundw
                      case rel => exact ⟨j + 1, by omega, by go_num, HF, HBN⟩
                      case measure => simp [intOf]; omega
        · have HF : Hid (true = Z2) := Lib.hid (by
            rw [← HQ.out, List.drop_of_length_le (by have := HNM.out.1; omega), List.drop_of_length_le (by have := HNM.out.2; omega)]
            exact (eqB_self _).symm)
          clear HQ
          have i4 : ¬ (j : Int) < (fn_ : Int) := by omega
          go_wp2_with fail
          go_ret
          exact ⟨ret_b (by rw [← HZT.out, ← HF.out]; rfl), HBR.out⟩
theorem rsame_any (x y : DocD) (u v : Value) (w : World) (hu : DocV u x w) (hv : DocV v y w) (sx : DocSm x) (sy : DocSm y) :
    Calls Tryz.prog 8 #[u, v] w fun e w' => e = .returned (.bool (eqB x y)) ∧ Below w.heap.size w w' := by
  obtain ⟨_, _, _, _, _, _, rfl, h1, h2⟩ := hu
  obtain ⟨_, _, _, _, _, _, rfl, k1, k2⟩ := hv
  rw [eqB_doc]
  have a1 := oprAt_of h1
  have a2 := frgAt_of h2
  have a3 := oprAt_of k1
  have a4 := frgAt_of k2
  have q1 := a1.1
  have q2 := a2.1
  have q3 := a3.1
  have q4 := a4.1
  by_cases e : x.ops.length = y.ops.length ∧ x.frags.length = y.frags.length
  · rw [← e.1] at q3
    rw [← e.2] at q4
    subst q1 q2 q3 q4
    exact rsame_go x.ops y.ops x.frags y.frags _ _ _ _ _ _ _ _ _ _ w a1 a2 a3 a4 sx.1.1 sx.2.1 sx.1.2 sy.1.2 sx.2.2 sy.2.2
  · have hr : (eqB x.ops y.ops && eqB x.frags y.frags) = false := by
      by_cases e1 : x.ops.length = y.ops.length
      · rw [eqB_len (L := x.frags) (M := y.frags) (fun h => e ⟨e1, h⟩), Bool.and_false]
      · rw [eqB_len e1, Bool.false_and]
    rw [hr]
    refine rsame_len _ _ _ _ _ _ _ _ _ _ _ _ (by rw [q1]; exact sx.1.1) (by rw [q2]; exact sx.2.1) (by rw [q3]; exact sy.1.1) (by rw [q4]; exact sy.2.1) _ _ rfl rfl ?_ w
    rw [Bool.or_eq_true, bne_iff_ne, bne_iff_ne]
    by_cases e1 : x.ops.length = y.ops.length
    · right; intro h; exact e ⟨e1, by omega⟩
    · left; intro h; exact e1 (by omega)
end Go.Proofs.YtbejhdhhkpllfaaGreatDoor
