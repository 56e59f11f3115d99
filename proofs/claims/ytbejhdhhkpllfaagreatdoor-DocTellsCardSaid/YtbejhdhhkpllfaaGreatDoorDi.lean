/- The reference's SameInputs. -/
import Derived.Test.YtbejhdhhkpllfaaGreatDoorDh
import Derived.Test.YtbejhdhhkpllfaaGreatDoorDt
import Derived.BigRegion
set_option linter.unusedSimpArgs false
set_option linter.unusedVariables false
namespace Go.Proofs.YtbejhdhhkpllfaaGreatDoor
open Go.RowKit
set_option maxRecDepth 100000 in
theorem rsi_len (v1 v2 : Option Addr) (c1 c2 : Nat) (n m : Nat) (hn : n ≤ 100000) (hm : m ≤ 100000) (hne : n ≠ m) (w : World) :
    Calls Tryz.prog 29 #[.slice v1 n c1, .slice v2 m c2] w fun e w' => e = .returned (.bool false) ∧ Below w.heap.size w w' := by
  have h1 : ((n : Int) != (m : Int)) = true := by rw [bne_iff_ne]; omega
  clear hne
  go_enter Tryz.func29, Tryz.ntmps29
  go_wp2_with fail
  go_ret
  exact ⟨rfl, Below.refl _ _⟩
set_option maxRecDepth 100000 in
theorem rsi_none (a v : Option Addr) (c1 c2 : Nat) (w : World) :
    Calls Tryz.prog 29 #[.slice a 0 c1, .slice v 0 c2] w fun e w' => e = .returned (.bool true) ∧ Below w.heap.size w w' := by
  go_enter Tryz.func29, Tryz.ntmps29
  go_wp2_with fail
  refine wp_loop_rounds 1 ?_; rw [rounds_succ]
  go_wp2_with fail
  go_ret
  exact ⟨rfl, Below.refl _ _⟩
set_option maxRecDepth 100000 in
set_option maxHeartbeats 8000000 in
theorem rsi_row (L M : List (Inp)) (b1 o1 c1 b2 o2 c2 : Nat) (hl : L.length ≤ 100000) (hlm : L.length = M.length) (w : World) (h1 : RowG 6 InpE ⟨b1, o1, none⟩ L w) (h2 : RowG 6 InpE ⟨b2, o2, none⟩ M w) (hs1 : ∀ x ∈ L, InpSm x) (hs2 : ∀ x ∈ M, InpSm x) :
    Calls Tryz.prog 29 #[.slice (some ⟨b1, o1, none⟩) L.length c1, .slice (some ⟨b2, o2, none⟩) L.length c2] w fun e w' => e = .returned (.bool (eqB L M)) ∧ Below w.heap.size w w' := by
  have H1 := Lib.hid h1
  have H2 := Lib.hid h2
  have HS1 := Lib.hid hs1
  have HS2 := Lib.hid hs2
  have HM := Lib.hid hlm
  obtain ⟨Z, hZ⟩ : ∃ Z, eqB L M = Z := ⟨_, rfl⟩
  have HZ0 : Hid (eqB (L.drop 0) (M.drop 0) = Z) := Lib.hid hZ
  rw [hZ]
  obtain ⟨n, hn⟩ : ∃ n, L.length = n := ⟨_, rfl⟩
  have HN := Lib.hid hn
  rw [hn]
  rw [hn] at hl
  clear h1 h2 hs1 hs2 hlm hZ hn
  have hnn : ((n : Int) != (n : Int)) = false := by rw [bne_eq_false_iff_eq]
  go_enter Tryz.func29, Tryz.ntmps29
  go_wp2_with fail
  go_loopg [5] (n + 1) (fun gk iv wr => ∃ i : Nat, iv = .int .i64 (i : Int) ∧ (gk + i ≤ n + 1 ∧ n + 1 ≤ gk + i) ∧ i ≤ n ∧ Hid (eqB (L.drop i) (M.drop i) = Z) ∧ Hid (Below w.heap.size w wr))
  case atStart => exact ⟨0, by go_num, ⟨by omega, by omega⟩, by omega, HZ0, Lib.hid (Below.refl _ _)⟩
  case round =>
    clear HZ0
    rename World => wr
    obtain ⟨i, rfl, ⟨hg1, hg2⟩, hi, HQ, HB⟩ := hrel
    obtain ⟨g, rfl⟩ : ∃ g, gk = g + 1 := ⟨gk - 1, by omega⟩
    have HGG := Lib.hid (And.intro hg1 hg2)
    clear hg1 hg2
    by_cases hin : i < n
    · have hil : i < L.length := by have := HN.out; omega
      have him : i < M.length := by rw [← HM.out]; exact hil
      obtain ⟨y0, y1, y2, y3, y4, y5, y6, y7, y8, yq0, yq1, yq2, yq3, yq4, yq5, yy, yz, yu⟩ := inp_at (RowG.below H1.out fun _ _ h => InpE.below h HB.out) i hil
      obtain ⟨z0, z1, z2, z3, z4, z5, z6, z7, z8, zq0, zq1, zq2, zq3, zq4, zq5, zy, zz, zu⟩ := inp_at (RowG.below H2.out fun _ _ h => InpE.below h HB.out) i him
      have sm1 := HS1.out L[i] (List.getElem_mem hil)
      have sm2 := HS2.out M[i] (List.getElem_mem him)
      have hq := HQ.out
      rw [eqB_drop _ _ i hil him, eqB_inp] at hq
      have hz := HB.out.size
      obtain ⟨t0, ht0⟩ : ∃ t : Bool, eqB L[i].name M[i].name = t := ⟨_, rfl⟩
      rw [ht0] at hq
      have he0 := (eqB_str L[i].name M[i].name).trans ht0
      obtain ⟨t1, ht1⟩ : ∃ t : Bool, (eqB L[i].tnm M[i].tnm && eqB L[i].wr M[i].wr) = t := ⟨_, rfl⟩
      have HC1 : Hid (∀ W, Below wr.heap.size wr W → Calls Tryz.prog 51 #[.agg #[.string ⟨L[i].tnm.toArray⟩, .slice y0 y1 y2], .agg #[.string ⟨M[i].tnm.toArray⟩, .slice z0 z1 z2]] W fun e w' => e = .returned (.bool t1) ∧ Below W.heap.size W w') := Lib.hid fun W hW => by
        rw [← ht1]
        exact rsty_any _ _ _ _ _ _ _ _ _ _ W (yy.below hW) (zy.below hW)
      rw [ht1] at hq
      obtain ⟨t2, ht2⟩ : ∃ t : Bool, eqB L[i].has M[i].has = t := ⟨_, rfl⟩
      rw [ht2] at hq
      have he2 := (eqB_bool L[i].has M[i].has).trans ht2
      obtain ⟨t3, ht3⟩ : ∃ t : Bool, (eqB L[i].dflt M[i].dflt) = t := ⟨_, rfl⟩
      have HC3 : Hid (∀ W, Below wr.heap.size wr W → Calls Tryz.prog 52 #[.slice y3 y4 y5, .slice z3 z4 z5] W fun e w' => e = .returned (.bool t3) ∧ Below W.heap.size W w') := Lib.hid fun W hW => by
        rw [← ht3]
        exact rsame03_eq _ _ _ _ sm1.2.2.2.1.1 sm2.2.2.2.1.1 W (yz.below hW) (zz.below hW)
      rw [ht3] at hq
      obtain ⟨t4, ht4⟩ : ∃ t : Bool, (eqB L[i].dirs M[i].dirs) = t := ⟨_, rfl⟩
      have HC4 : Hid (∀ W, Below wr.heap.size wr W → Calls Tryz.prog 53 #[.slice y6 y7 y8, .slice z6 z7 z8] W fun e w' => e = .returned (.bool t4) ∧ Below W.heap.size W w') := Lib.hid fun W hW => by
        rw [← ht4]
        exact rsd_eq _ _ _ _ W (DirSlc.below yu hW) (DirSlc.below zu hW) sm1.2.2.2.2 sm2.2.2.2.2
      rw [ht4] at hq
      have HQ2 := Lib.hid hq
      clear hq HQ sm1 sm2 ht0 ht1 ht2 ht3 ht4 yy yz yu zy zz zu
      generalize L[i].has = hs at *
      generalize M[i].has = hsm at *
      generalize (⟨L[i].name.toArray⟩ : ByteArray) = x0 at *
      generalize (⟨M[i].name.toArray⟩ : ByteArray) = x0m at *
      generalize (⟨L[i].tnm.toArray⟩ : ByteArray) = x1 at *
      generalize (⟨M[i].tnm.toArray⟩ : ByteArray) = x1m at *
      have hi1 : (i : Int).toNat = i := by omega
      have hi2 : (0 : Int) ≤ (i : Int) := by omega
      have hi3 : (i : Int) < (n : Int) := by omega
      have hi4 : IntKind.i64.wrap ((i : Int) + 1) = ((i + 1 : Nat) : Int) := by rw [IntWalk.i64_in _ (by omega)]; omega
      have pb := lt_of_cell yq0
      have qb := lt_of_cell zq0
      go_upto_region 6 with fail
      go_region
      obtain ⟨w2, hw2⟩ : ∃ w2, ((wr.alloc (.cells #[.string x0, .string x1, .slice y0 y1 y2, .bool hs, .slice y3 y4 y5, .slice y6 y7 y8] 48 (0, 0))).alloc (.cells #[.string x0m, .string x1m, .slice z0 z1 z2, .bool hsm, .slice z3 z4 z5, .slice z6 z7 z8] 48 (0, 0))).drew = w2 := ⟨_, rfl⟩
      have HBA : Hid (Below wr.heap.size wr w2) := Lib.hid (by rw [← hw2]; exact (((Below.refl _ _).alloc (Nat.le_refl _) _).alloc (by simp) _).drew)
      have k1 : w2.heap[wr.heap.size]? = some (.cells #[.string x0, .string x1, .slice y0 y1 y2, .bool hs, .slice y3 y4 y5, .slice y6 y7 y8] 48 (0, 0)) := by rw [← hw2]; exact heap_old (heap_new _ _ _ rfl)
      have k2 : w2.heap[wr.heap.size + 1]? = some (.cells #[.string x0m, .string x1m, .slice z0 z1 z2, .bool hsm, .slice z3 z4 z5, .slice z6 z7 z8] 48 (0, 0)) := by rw [← hw2]; exact heap_new _ _ _ (by simp)
      try rw [hw2]
      clear hw2
      obtain ⟨p, hp⟩ : ∃ p, wr.heap.size = p := ⟨_, rfl⟩
      obtain ⟨q, hq⟩ : ∃ q, wr.heap.size + 1 = q := ⟨_, rfl⟩
      rw [hp] at k1; rw [hq] at k2
      try rw [hq]
      try rw [hp]
      have MK : Hid (∀ W, Below w2.heap.size w2 W → W.cell? ⟨p, 0, none⟩ = some (.string x0) ∧ W.cell? ⟨p, 1, none⟩ = some (.string x1) ∧ W.cell? ⟨p, 2, none⟩ = some (.slice y0 y1 y2) ∧ W.cell? ⟨p, 3, none⟩ = some (.bool hs) ∧ W.cell? ⟨p, 4, none⟩ = some (.slice y3 y4 y5) ∧ W.cell? ⟨p, 5, none⟩ = some (.slice y6 y7 y8) ∧ W.cell? ⟨q, 0, none⟩ = some (.string x0m) ∧ W.cell? ⟨q, 1, none⟩ = some (.string x1m) ∧ W.cell? ⟨q, 2, none⟩ = some (.slice z0 z1 z2) ∧ W.cell? ⟨q, 3, none⟩ = some (.bool hsm) ∧ W.cell? ⟨q, 4, none⟩ = some (.slice z3 z4 z5) ∧ W.cell? ⟨q, 5, none⟩ = some (.slice z6 z7 z8)) := Lib.hid fun W hW => ⟨(Lib.cell_of_heap ((hW.block _ (heap_lt k1)).trans k1) 0).trans rfl, (Lib.cell_of_heap ((hW.block _ (heap_lt k1)).trans k1) 1).trans rfl, (Lib.cell_of_heap ((hW.block _ (heap_lt k1)).trans k1) 2).trans rfl, (Lib.cell_of_heap ((hW.block _ (heap_lt k1)).trans k1) 3).trans rfl, (Lib.cell_of_heap ((hW.block _ (heap_lt k1)).trans k1) 4).trans rfl, (Lib.cell_of_heap ((hW.block _ (heap_lt k1)).trans k1) 5).trans rfl, (Lib.cell_of_heap ((hW.block _ (heap_lt k2)).trans k2) 0).trans rfl, (Lib.cell_of_heap ((hW.block _ (heap_lt k2)).trans k2) 1).trans rfl, (Lib.cell_of_heap ((hW.block _ (heap_lt k2)).trans k2) 2).trans rfl, (Lib.cell_of_heap ((hW.block _ (heap_lt k2)).trans k2) 3).trans rfl, (Lib.cell_of_heap ((hW.block _ (heap_lt k2)).trans k2) 4).trans rfl, (Lib.cell_of_heap ((hW.block _ (heap_lt k2)).trans k2) 5).trans rfl⟩
      clear k1 k2 hp hq
      rotate_left
      obtain ⟨w2, hw2⟩ : ∃ w2, ((wr.alloc (.cells #[.string x0m, .string x1m, .slice z0 z1 z2, .bool hsm, .slice z3 z4 z5, .slice z6 z7 z8] 48 (0, 0))).alloc (.cells #[.string x0, .string x1, .slice y0 y1 y2, .bool hs, .slice y3 y4 y5, .slice y6 y7 y8] 48 (0, 0))).drew = w2 := ⟨_, rfl⟩
      have HBA : Hid (Below wr.heap.size wr w2) := Lib.hid (by rw [← hw2]; exact (((Below.refl _ _).alloc (Nat.le_refl _) _).alloc (by simp) _).drew)
      have k1 : w2.heap[wr.heap.size]? = some (.cells #[.string x0m, .string x1m, .slice z0 z1 z2, .bool hsm, .slice z3 z4 z5, .slice z6 z7 z8] 48 (0, 0)) := by rw [← hw2]; exact heap_old (heap_new _ _ _ rfl)
      have k2 : w2.heap[wr.heap.size + 1]? = some (.cells #[.string x0, .string x1, .slice y0 y1 y2, .bool hs, .slice y3 y4 y5, .slice y6 y7 y8] 48 (0, 0)) := by rw [← hw2]; exact heap_new _ _ _ (by simp)
      try rw [hw2]
      clear hw2
      obtain ⟨p, hp⟩ : ∃ p, wr.heap.size + 1 = p := ⟨_, rfl⟩
      obtain ⟨q, hq⟩ : ∃ q, wr.heap.size = q := ⟨_, rfl⟩
      rw [hq] at k1; rw [hp] at k2
      try rw [hp]
      try rw [hq]
      have MK : Hid (∀ W, Below w2.heap.size w2 W → W.cell? ⟨p, 0, none⟩ = some (.string x0) ∧ W.cell? ⟨p, 1, none⟩ = some (.string x1) ∧ W.cell? ⟨p, 2, none⟩ = some (.slice y0 y1 y2) ∧ W.cell? ⟨p, 3, none⟩ = some (.bool hs) ∧ W.cell? ⟨p, 4, none⟩ = some (.slice y3 y4 y5) ∧ W.cell? ⟨p, 5, none⟩ = some (.slice y6 y7 y8) ∧ W.cell? ⟨q, 0, none⟩ = some (.string x0m) ∧ W.cell? ⟨q, 1, none⟩ = some (.string x1m) ∧ W.cell? ⟨q, 2, none⟩ = some (.slice z0 z1 z2) ∧ W.cell? ⟨q, 3, none⟩ = some (.bool hsm) ∧ W.cell? ⟨q, 4, none⟩ = some (.slice z3 z4 z5) ∧ W.cell? ⟨q, 5, none⟩ = some (.slice z6 z7 z8)) := Lib.hid fun W hW => ⟨(Lib.cell_of_heap ((hW.block _ (heap_lt k2)).trans k2) 0).trans rfl, (Lib.cell_of_heap ((hW.block _ (heap_lt k2)).trans k2) 1).trans rfl, (Lib.cell_of_heap ((hW.block _ (heap_lt k2)).trans k2) 2).trans rfl, (Lib.cell_of_heap ((hW.block _ (heap_lt k2)).trans k2) 3).trans rfl, (Lib.cell_of_heap ((hW.block _ (heap_lt k2)).trans k2) 4).trans rfl, (Lib.cell_of_heap ((hW.block _ (heap_lt k2)).trans k2) 5).trans rfl, (Lib.cell_of_heap ((hW.block _ (heap_lt k1)).trans k1) 0).trans rfl, (Lib.cell_of_heap ((hW.block _ (heap_lt k1)).trans k1) 1).trans rfl, (Lib.cell_of_heap ((hW.block _ (heap_lt k1)).trans k1) 2).trans rfl, (Lib.cell_of_heap ((hW.block _ (heap_lt k1)).trans k1) 3).trans rfl, (Lib.cell_of_heap ((hW.block _ (heap_lt k1)).trans k1) 4).trans rfl, (Lib.cell_of_heap ((hW.block _ (heap_lt k1)).trans k1) 5).trans rfl⟩
      clear k1 k2 hp hq
      rotate_left
      all_goals
        clear yq0 yq1 yq2 yq3 yq4 yq5 zq0 zq1 zq2 zq3 zq4 zq5 pb qb
        obtain ⟨d0, d1, d2, d3, d4, d5, d6, d7, d8, d9, d10, d11⟩ := MK.out w2 (Below.refl _ _)
        have HBV : Hid (Below w2.heap.size w2 w2) := Lib.hid (Below.refl _ _)
        cases t0 with
        | false =>
          have hf0 : (x0.toList != x0m.toList) = true := by rw [bne, he0]; rfl
          have hg0 : ¬ x0.toList = x0m.toList := beq_eq_false_iff_ne.1 he0
          have HF : Hid (false = Z) := Lib.hid (by rw [← HQ2.out]; rfl)
          have HBN : Hid (Below w.heap.size w _) := Lib.hid (HB.out.trans ((HBA.out.trans (HBV.out.mono HBA.out.size)).mono hz))
          go_wp2_with fail
          go_ret
          exact ⟨ret_b HF.out, HBN.out⟩
        | true =>
          have hf0 : (x0.toList != x0m.toList) = false := by rw [bne, he0]; rfl
          have hg0 : x0.toList = x0m.toList := beq_iff_eq.1 he0
          cases t1 with
          | false =>
            go_wp2_with fail
            refine (HC1.out _ (HBA.out.trans (HBV.out.mono HBA.out.size))).mono ?_; rintro e w5 ⟨rfl, hb⟩
            have HBV2 : Hid (Below w2.heap.size w2 w5) := Lib.hid (HBV.out.trans (hb.mono HBV.out.size))
            clear HBV hb
            have HBV := HBV2
            clear HBV2
            have HF : Hid (false = Z) := Lib.hid (by rw [← HQ2.out]; rfl)
            have HBN : Hid (Below w.heap.size w _) := Lib.hid (HB.out.trans ((HBA.out.trans (HBV.out.mono HBA.out.size)).mono hz))
            go_wp2_with fail
            go_ret
            exact ⟨ret_b HF.out, HBN.out⟩
          | true =>
            go_wp2_with fail
            refine (HC1.out _ (HBA.out.trans (HBV.out.mono HBA.out.size))).mono ?_; rintro e w5 ⟨rfl, hb⟩
            have HBV2 : Hid (Below w2.heap.size w2 w5) := Lib.hid (HBV.out.trans (hb.mono HBV.out.size))
            obtain ⟨d0, d1, d2, d3, d4, d5, d6, d7, d8, d9, d10, d11⟩ := MK.out w5 HBV2.out
            clear HBV hb
            have HBV := HBV2
            clear HBV2
            cases t2 with
            | false =>
              have hf2 : (hs != hsm) = true := by rw [bne, he2]; rfl
              have HF : Hid (false = Z) := Lib.hid (by rw [← HQ2.out]; rfl)
              have HBN : Hid (Below w.heap.size w _) := Lib.hid (HB.out.trans ((HBA.out.trans (HBV.out.mono HBA.out.size)).mono hz))
              go_wp2_with fail
              go_ret
              exact ⟨ret_b HF.out, HBN.out⟩
            | true =>
              have hf2 : (hs != hsm) = false := by rw [bne, he2]; rfl
              cases t3 with
              | false =>
                go_wp2_with fail
                refine (HC3.out _ (HBA.out.trans (HBV.out.mono HBA.out.size))).mono ?_; rintro e w5 ⟨rfl, hb⟩
                have HBV2 : Hid (Below w2.heap.size w2 w5) := Lib.hid (HBV.out.trans (hb.mono HBV.out.size))
                clear HBV hb
                have HBV := HBV2
                clear HBV2
                have HF : Hid (false = Z) := Lib.hid (by rw [← HQ2.out]; rfl)
                have HBN : Hid (Below w.heap.size w _) := Lib.hid (HB.out.trans ((HBA.out.trans (HBV.out.mono HBA.out.size)).mono hz))
                go_wp2_with fail
                go_ret
                exact ⟨ret_b HF.out, HBN.out⟩
              | true =>
                go_wp2_with fail
                refine (HC3.out _ (HBA.out.trans (HBV.out.mono HBA.out.size))).mono ?_; rintro e w5 ⟨rfl, hb⟩
                have HBV2 : Hid (Below w2.heap.size w2 w5) := Lib.hid (HBV.out.trans (hb.mono HBV.out.size))
                obtain ⟨d0, d1, d2, d3, d4, d5, d6, d7, d8, d9, d10, d11⟩ := MK.out w5 HBV2.out
                clear HBV hb
                have HBV := HBV2
                clear HBV2
                cases t4 with
                | false =>
                  go_wp2_with fail
                  refine (HC4.out _ (HBA.out.trans (HBV.out.mono HBA.out.size))).mono ?_; rintro e w5 ⟨rfl, hb⟩
                  have HBV2 : Hid (Below w2.heap.size w2 w5) := Lib.hid (HBV.out.trans (hb.mono HBV.out.size))
                  clear HBV hb
                  have HBV := HBV2
                  clear HBV2
                  have HF : Hid (false = Z) := Lib.hid (by rw [← HQ2.out]; rfl)
                  have HBN : Hid (Below w.heap.size w _) := Lib.hid (HB.out.trans ((HBA.out.trans (HBV.out.mono HBA.out.size)).mono hz))
                  go_wp2_with fail
                  go_ret
                  exact ⟨ret_b HF.out, HBN.out⟩
                | true =>
                  go_wp2_with fail
                  refine (HC4.out _ (HBA.out.trans (HBV.out.mono HBA.out.size))).mono ?_; rintro e w5 ⟨rfl, hb⟩
                  have HBV2 : Hid (Below w2.heap.size w2 w5) := Lib.hid (HBV.out.trans (hb.mono HBV.out.size))
                  clear HBV hb
                  have HBV := HBV2
                  clear HBV2
                  have HF : Hid (eqB (L.drop (i + 1)) (M.drop (i + 1)) = Z) := Lib.hid (by rw [← HQ2.out]; rfl)
                  have HBN : Hid (Below w.heap.size w _) := Lib.hid (HB.out.trans ((HBA.out.trans (HBV.out.mono HBA.out.size)).mono hz))
                  go_wp2_with fail
                  obtain ⟨hg1, hg2⟩ := HGG.out
                  go_roundg g
                  case measure => omega
                  case rel => exact ⟨i + 1, rfl, ⟨by omega, by omega⟩, by omega, HF, HBN⟩
    · have hin2 : i = n := by omega
      have HF : Hid (true = Z) := Lib.hid (by
        have h1 := HN.out
        have h2 := HM.out
        rw [← HQ.out, List.drop_of_length_le (by omega), List.drop_of_length_le (by omega)]
        exact (eqB_self _).symm)
      clear HQ
      subst hin2
      clear hin
      go_wp2_with fail
      go_ret
      exact ⟨ret_b HF.out, HB.out⟩
theorem rsi_any (L M : List (Inp)) (u v : Value) (hl : L.length ≤ 100000) (hm : M.length ≤ 100000) (w : World) (h1 : InpSl u L w) (h2 : InpSl v M w) (hs1 : ∀ x ∈ L, InpSm x) (hs2 : ∀ x ∈ M, InpSm x) :
    Calls Tryz.prog 29 #[u, v] w fun e w' => e = .returned (.bool (eqB L M)) ∧ Below w.heap.size w w' := by
  by_cases hlm : L.length = M.length
  · rcases h1 with ⟨a1, c1, rfl, rfl⟩ | ⟨b1, o1, c1, rfl, h1, p1⟩
    · obtain rfl : M = [] := List.eq_nil_of_length_eq_zero hlm.symm
      rw [eqB_self]
      rcases h2 with ⟨a2, c2, rfl, _⟩ | ⟨b2, o2, c2, rfl, h2, p2⟩
      · exact rsi_none a1 a2 c1 c2 w
      · exact rsi_none a1 _ c1 c2 w
    · rcases h2 with ⟨a2, c2, rfl, rfl⟩ | ⟨b2, o2, c2, rfl, h2, p2⟩
      · obtain rfl : L = [] := List.eq_nil_of_length_eq_zero hlm
        rw [eqB_self]
        exact rsi_none _ a2 c1 c2 w
      · rw [← hlm]
        exact rsi_row L M b1 o1 c1 b2 o2 c2 hl hlm w h1 h2 hs1 hs2
  · rw [eqB_len hlm]
    rcases h1 with ⟨a1, c1, rfl, rfl⟩ | ⟨b1, o1, c1, rfl, h1, p1⟩
    · rcases h2 with ⟨a2, c2, rfl, rfl⟩ | ⟨b2, o2, c2, rfl, h2, p2⟩
      · exact absurd rfl hlm
      · exact rsi_len a1 _ _ _ 0 _ (by omega) hm hlm w
    · rcases h2 with ⟨a2, c2, rfl, rfl⟩ | ⟨b2, o2, c2, rfl, h2, p2⟩
      · exact rsi_len _ a2 _ _ _ 0 hl (by omega) hlm w
      · exact rsi_len _ _ _ _ _ _ hl hm hlm w
theorem rsi_eq (L M : List Inp) (u v : Value) (w : World) (h1 : InpSl u L w) (h2 : InpSl v M w) (s1 : InpsSm L) (s2 : InpsSm M) :
    Calls Tryz.prog 29 #[u, v] w fun e w' => e = .returned (.bool (eqB L M)) ∧ Below w.heap.size w w' := rsi_any L M u v s1.1 s2.1 w h1 h2 s1.2 s2.2
end Go.Proofs.YtbejhdhhkpllfaaGreatDoor
