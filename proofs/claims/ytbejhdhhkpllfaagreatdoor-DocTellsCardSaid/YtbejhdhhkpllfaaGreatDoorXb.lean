/- slices.EqualFunc at selections, operations, fragments. -/
import Derived.Test.YtbejhdhhkpllfaaGreatDoorXa
import Derived.Test.YtbejhdhhkpllfaaGreatDoorDd
set_option linter.unusedSimpArgs false
set_option linter.unusedVariables false
namespace Go.Proofs.YtbejhdhhkpllfaaGreatDoor
open Go.RowKit
set_option maxRecDepth 100000 in
theorem sel_eqf_len (g : Nat) (lb : Array Value) (v1 v2 : Option Addr) (c1 c2 : Nat) (n m : Nat) (hn : n ≤ 100000) (hm : m ≤ 100000) (hne : n ≠ m) (w : World) :
    Calls Tryz.prog 25 #[.slice v1 n c1, .slice v2 m c2, .func (.func g) #[] lb] w fun e w' => e = .returned (.bool false) ∧ Below w.heap.size w w' := by
  have h1 : ((n : Int) != (m : Int)) = true := by rw [bne_iff_ne]; omega
  clear hne
  go_enter Tryz.func25, Tryz.ntmps25
  go_wp2_with fail
  go_ret
  exact ⟨rfl, Below.refl _ _⟩
set_option maxRecDepth 100000 in
theorem sel_eqf_none (g : Nat) (lb : Array Value) (a v : Option Addr) (c1 c2 : Nat) (w : World) :
    Calls Tryz.prog 25 #[.slice a 0 c1, .slice v 0 c2, .func (.func g) #[] lb] w fun e w' => e = .returned (.bool true) ∧ Below w.heap.size w w' := by
  go_enter Tryz.func25, Tryz.ntmps25
  go_wp2_with fail
  refine wp_loop_rounds 1 ?_; rw [rounds_succ]
  go_wp2_with fail
  go_ret
  exact ⟨rfl, Below.refl _ _⟩
set_option maxRecDepth 100000 in
set_option maxHeartbeats 4000000 in
theorem sel_eqf_row (g : Nat) (lb : Array Value) (eg : ∀ args w, (callFunc g args).run Tryz.prog w = .ok (.enter g args) w) (L M : List (SelD)) (b1 o1 c1 b2 o2 c2 : Nat) (hl : L.length ≤ 100000) (hlm : L.length = M.length) (w : World) (h1 : RowG 6 SelE ⟨b1, o1, none⟩ L w) (h2 : RowG 6 SelE ⟨b2, o2, none⟩ M w)
    (H : Hid (∀ (W : World) (k : Nat) (hk : k < L.length) (hk' : k < M.length) (u v : Value), SelV u L[k] W → SelV v M[k] W → Below w.heap.size w W → Calls Tryz.prog g (#[u, v] ++ lb) W fun e w' => e = .returned (.bool (eqB L[k] M[k])) ∧ Below W.heap.size W w')) :
    Calls Tryz.prog 25 #[.slice (some ⟨b1, o1, none⟩) L.length c1, .slice (some ⟨b2, o2, none⟩) L.length c2, .func (.func g) #[] lb] w fun e w' => e = .returned (.bool (eqB L M)) ∧ Below w.heap.size w w' := by
  have H1 := Lib.hid h1
  have H2 := Lib.hid h2
  have HM := Lib.hid hlm
  obtain ⟨r, hr⟩ : ∃ r, eqB L M = r := ⟨_, rfl⟩
  have HR : Hid (eqB (L.drop 0) (M.drop 0) = r) := Lib.hid hr
  rw [hr]
  clear hr h1 h2 hlm
  have hnn : ((L.length : Int) != (L.length : Int)) = false := by rw [bne_eq_false_iff_eq]
  go_enter Tryz.func25, Tryz.ntmps25
  go_wp2_with fail
  go_loopw [17] (fun i wr => ∃ k : Nat, k ≤ L.length ∧ i = .int .i64 k ∧ Hid (eqB (L.drop k) (M.drop k) = r) ∧ Hid (Below w.heap.size w wr)) (fun i wr => L.length - (intOf i).toNat)
  case atStart => exact ⟨0, Nat.zero_le _, rfl, HR, Lib.hid (Below.refl _ _)⟩
  case round =>
    rename World => wr
    obtain ⟨k, hk, rfl, HS, HB⟩ := hrel
    by_cases hlt : k < L.length
    · have hltm : k < M.length := by rw [← HM.out]; exact hlt
      obtain ⟨y0, y1, y2, y3, y4, y5, yq0, yq1, yq2, yq3, yq4, yq5, yy, yz⟩ := Sel_at (RowG.below H1.out fun _ _ h => SelE.below h HB.out) k hlt
      obtain ⟨z0, z1, z2, z3, z4, z5, zq0, zq1, zq2, zq3, zq4, zq5, zy, zz⟩ := Sel_at (RowG.below H2.out fun _ _ h => SelE.below h HB.out) k hltm
      have hstep := HS.out
      rw [eqB_drop _ _ k hlt hltm] at hstep
      have hz := HB.out.size
      have HC := Lib.hid fun W (hW : Below wr.heap.size wr W) => H.out W k hlt hltm _ _ (SelV.below ⟨_, _, _, _, _, _, rfl, yy, yz⟩ hW) (SelV.below ⟨_, _, _, _, _, _, rfl, zy, zz⟩ hW) (HB.out.trans (hW.mono hz))
      clear yy yz zy zz
      generalize eqB L[k] M[k] = pk at *
      generalize (L[k].kind.toNat : Int) = kk at *
      generalize L[k].many = mm at *
      generalize (M[k].kind.toNat : Int) = kkm at *
      generalize M[k].many = mmm at *
      generalize (⟨L[k].als.toArray⟩ : ByteArray) = x0 at *
      generalize (⟨M[k].als.toArray⟩ : ByteArray) = x0m at *
      generalize (⟨L[k].name.toArray⟩ : ByteArray) = x1 at *
      generalize (⟨M[k].name.toArray⟩ : ByteArray) = x1m at *
      have pb := lt_of_cell yq0
      have qb := lt_of_cell zq0
      go_upto_region 7 with fail
      obtain ⟨w2, hw2⟩ : ∃ w2, (wr.alloc (.cells #[.int .u8 kk, .string x0, .string x1, .slice y0 y1 y2, .slice y3 y4 y5, .int .i64 mm] 52 (0, 0))).alloc (.cells #[.int .u8 kkm, .string x0m, .string x1m, .slice z0 z1 z2, .slice z3 z4 z5, .int .i64 mmm] 52 (0, 0)) = w2 := ⟨_, rfl⟩
      have HBA : Hid (Below wr.heap.size wr w2) := Lib.hid (by rw [← hw2]; exact ((Below.refl _ _).alloc (Nat.le_refl _) _).alloc (by simp) _)
      have k1 : w2.heap[wr.heap.size]? = some (.cells #[.int .u8 kk, .string x0, .string x1, .slice y0 y1 y2, .slice y3 y4 y5, .int .i64 mm] 52 (0, 0)) := by rw [← hw2]; exact heap_old (heap_new _ _ _ rfl)
      have k2 : w2.heap[wr.heap.size + 1]? = some (.cells #[.int .u8 kkm, .string x0m, .string x1m, .slice z0 z1 z2, .slice z3 z4 z5, .int .i64 mmm] 52 (0, 0)) := by rw [← hw2]; exact heap_new _ _ _ (by simp)
      have d0x : w2.cell? ⟨wr.heap.size, 0, none⟩ = some (.int .u8 kk) := (Lib.cell_of_heap k1 0).trans rfl
      have d1x : w2.cell? ⟨wr.heap.size, 1, none⟩ = some (.string x0) := (Lib.cell_of_heap k1 1).trans rfl
      have d2x : w2.cell? ⟨wr.heap.size, 2, none⟩ = some (.string x1) := (Lib.cell_of_heap k1 2).trans rfl
      have d3x : w2.cell? ⟨wr.heap.size, 3, none⟩ = some (.slice y0 y1 y2) := (Lib.cell_of_heap k1 3).trans rfl
      have d4x : w2.cell? ⟨wr.heap.size, 4, none⟩ = some (.slice y3 y4 y5) := (Lib.cell_of_heap k1 4).trans rfl
      have d5x : w2.cell? ⟨wr.heap.size, 5, none⟩ = some (.int .i64 mm) := (Lib.cell_of_heap k1 5).trans rfl
      have d0y : w2.cell? ⟨wr.heap.size + 1, 0, none⟩ = some (.int .u8 kkm) := (Lib.cell_of_heap k2 0).trans rfl
      have d1y : w2.cell? ⟨wr.heap.size + 1, 1, none⟩ = some (.string x0m) := (Lib.cell_of_heap k2 1).trans rfl
      have d2y : w2.cell? ⟨wr.heap.size + 1, 2, none⟩ = some (.string x1m) := (Lib.cell_of_heap k2 2).trans rfl
      have d3y : w2.cell? ⟨wr.heap.size + 1, 3, none⟩ = some (.slice z0 z1 z2) := (Lib.cell_of_heap k2 3).trans rfl
      have d4y : w2.cell? ⟨wr.heap.size + 1, 4, none⟩ = some (.slice z3 z4 z5) := (Lib.cell_of_heap k2 4).trans rfl
      have d5y : w2.cell? ⟨wr.heap.size + 1, 5, none⟩ = some (.int .i64 mmm) := (Lib.cell_of_heap k2 5).trans rfl
      try rw [hw2]
      clear hw2 k1 k2
      cases pk with
      | false =>
        rw [Bool.false_and] at hstep
        have HF := Lib.hid hstep
        clear hstep HS
        go_wp2_with fail
        refine (HC.out _ HBA.out).mono ?_; rintro e w1 ⟨rfl, hb⟩
        have HB1 := Lib.hid (HB.out.trans ((HBA.out.trans (hb.mono HBA.out.size)).mono hz))
        clear hb
        go_wp2_with fail
        go_ret
        exact ⟨ret_b HF.out, HB1.out⟩
      | true =>
        rw [Bool.true_and] at hstep
        have HF := Lib.hid hstep
        clear hstep HS
        go_wp2_with fail
        refine (HC.out _ HBA.out).mono ?_; rintro e w1 ⟨rfl, hb⟩
        have HB1 := Lib.hid (HB.out.trans ((HBA.out.trans (hb.mono HBA.out.size)).mono hz))
        clear hb
        go_wp2_with fail
        go_roundw
        case rel => exact ⟨k + 1, by omega, by go_num, HF, HB1⟩
        case measure => simp [intOf]; omega
    · have HF : Hid (true = r) := Lib.hid (by
        have hm : M.length = L.length := HM.out.symm
        rw [← HS.out, List.drop_of_length_le (by omega), List.drop_of_length_le (by omega)]
        exact (eqB_self _).symm)
      clear HS
      go_wp2_with fail
      go_ret
      exact ⟨ret_b HF.out, HB.out⟩
theorem sel_eqf (g : Nat) (lb : Array Value) (eg : ∀ args w, (callFunc g args).run Tryz.prog w = .ok (.enter g args) w) (L M : List (SelD)) (u v : Value) (hl : L.length ≤ 100000) (hm : M.length ≤ 100000) (w : World) (h1 : SelSl u L w) (h2 : SelSl v M w)
    (H : Hid (∀ (W : World) (k : Nat) (hk : k < L.length) (hk' : k < M.length) (u v : Value), SelV u L[k] W → SelV v M[k] W → Below w.heap.size w W → Calls Tryz.prog g (#[u, v] ++ lb) W fun e w' => e = .returned (.bool (eqB L[k] M[k])) ∧ Below W.heap.size W w')) :
    Calls Tryz.prog 25 #[u, v, .func (.func g) #[] lb] w fun e w' => e = .returned (.bool (eqB L M)) ∧ Below w.heap.size w w' := by
  by_cases hlm : L.length = M.length
  · rcases h1 with ⟨a1, c1, rfl, rfl⟩ | ⟨b1, o1, c1, rfl, h1, p1⟩
    · obtain rfl : M = [] := List.eq_nil_of_length_eq_zero hlm.symm
      rw [eqB_self]
      rcases h2 with ⟨a2, c2, rfl, _⟩ | ⟨b2, o2, c2, rfl, h2, p2⟩
      · exact sel_eqf_none g lb a1 a2 c1 c2 w
      · exact sel_eqf_none g lb a1 _ c1 c2 w
    · rcases h2 with ⟨a2, c2, rfl, rfl⟩ | ⟨b2, o2, c2, rfl, h2, p2⟩
      · obtain rfl : L = [] := List.eq_nil_of_length_eq_zero hlm
        rw [eqB_self]
        exact sel_eqf_none g lb _ a2 c1 c2 w
      · rw [← hlm]
        exact sel_eqf_row g lb eg L M b1 o1 c1 b2 o2 c2 hl hlm w h1 h2 H
  · rw [eqB_len hlm]
    rcases h1 with ⟨a1, c1, rfl, rfl⟩ | ⟨b1, o1, c1, rfl, h1, p1⟩
    · rcases h2 with ⟨a2, c2, rfl, rfl⟩ | ⟨b2, o2, c2, rfl, h2, p2⟩
      · exact absurd rfl hlm
      · exact sel_eqf_len g lb a1 _ _ _ 0 _ (by omega) hm hlm w
    · rcases h2 with ⟨a2, c2, rfl, rfl⟩ | ⟨b2, o2, c2, rfl, h2, p2⟩
      · exact sel_eqf_len g lb _ a2 _ _ _ 0 hl (by omega) hlm w
      · exact sel_eqf_len g lb _ _ _ _ _ _ hl hm hlm w
set_option maxRecDepth 100000 in
theorem opr_eqf_len (g : Nat) (lb : Array Value) (v1 v2 : Option Addr) (c1 c2 : Nat) (n m : Nat) (hn : n ≤ 100000) (hm : m ≤ 100000) (hne : n ≠ m) (w : World) :
    Calls Tryz.prog 27 #[.slice v1 n c1, .slice v2 m c2, .func (.func g) #[] lb] w fun e w' => e = .returned (.bool false) ∧ Below w.heap.size w w' := by
  have h1 : ((n : Int) != (m : Int)) = true := by rw [bne_iff_ne]; omega
  clear hne
  go_enter Tryz.func27, Tryz.ntmps27
  go_wp2_with fail
  go_ret
  exact ⟨rfl, Below.refl _ _⟩
set_option maxRecDepth 100000 in
theorem opr_eqf_none (g : Nat) (lb : Array Value) (a v : Option Addr) (c1 c2 : Nat) (w : World) :
    Calls Tryz.prog 27 #[.slice a 0 c1, .slice v 0 c2, .func (.func g) #[] lb] w fun e w' => e = .returned (.bool true) ∧ Below w.heap.size w w' := by
  go_enter Tryz.func27, Tryz.ntmps27
  go_wp2_with fail
  refine wp_loop_rounds 1 ?_; rw [rounds_succ]
  go_wp2_with fail
  go_ret
  exact ⟨rfl, Below.refl _ _⟩
set_option maxRecDepth 100000 in
set_option maxHeartbeats 4000000 in
theorem opr_eqf_row (g : Nat) (lb : Array Value) (eg : ∀ args w, (callFunc g args).run Tryz.prog w = .ok (.enter g args) w) (L M : List (OpD)) (b1 o1 c1 b2 o2 c2 : Nat) (hl : L.length ≤ 100000) (hlm : L.length = M.length) (w : World) (h1 : RowG 5 OprE ⟨b1, o1, none⟩ L w) (h2 : RowG 5 OprE ⟨b2, o2, none⟩ M w)
    (H : Hid (∀ (W : World) (k : Nat) (hk : k < L.length) (hk' : k < M.length) (u v : Value), OprV u L[k] W → OprV v M[k] W → Below w.heap.size w W → Calls Tryz.prog g (#[u, v] ++ lb) W fun e w' => e = .returned (.bool (eqB L[k] M[k])) ∧ Below W.heap.size W w')) :
    Calls Tryz.prog 27 #[.slice (some ⟨b1, o1, none⟩) L.length c1, .slice (some ⟨b2, o2, none⟩) L.length c2, .func (.func g) #[] lb] w fun e w' => e = .returned (.bool (eqB L M)) ∧ Below w.heap.size w w' := by
  have H1 := Lib.hid h1
  have H2 := Lib.hid h2
  have HM := Lib.hid hlm
  obtain ⟨r, hr⟩ : ∃ r, eqB L M = r := ⟨_, rfl⟩
  have HR : Hid (eqB (L.drop 0) (M.drop 0) = r) := Lib.hid hr
  rw [hr]
  clear hr h1 h2 hlm
  have hnn : ((L.length : Int) != (L.length : Int)) = false := by rw [bne_eq_false_iff_eq]
  go_enter Tryz.func27, Tryz.ntmps27
  go_wp2_with fail
  go_loopw [17] (fun i wr => ∃ k : Nat, k ≤ L.length ∧ i = .int .i64 k ∧ Hid (eqB (L.drop k) (M.drop k) = r) ∧ Hid (Below w.heap.size w wr)) (fun i wr => L.length - (intOf i).toNat)
  case atStart => exact ⟨0, Nat.zero_le _, rfl, HR, Lib.hid (Below.refl _ _)⟩
  case round =>
    rename World => wr
    obtain ⟨k, hk, rfl, HS, HB⟩ := hrel
    by_cases hlt : k < L.length
    · have hltm : k < M.length := by rw [← HM.out]; exact hlt
      obtain ⟨y0, y1, y2, y3, y4, y5, yq0, yq1, yq2, yq3, yq4, yy, yz⟩ := Opr_at (RowG.below H1.out fun _ _ h => OprE.below h HB.out) k hlt
      obtain ⟨z0, z1, z2, z3, z4, z5, zq0, zq1, zq2, zq3, zq4, zy, zz⟩ := Opr_at (RowG.below H2.out fun _ _ h => OprE.below h HB.out) k hltm
      have hstep := HS.out
      rw [eqB_drop _ _ k hlt hltm] at hstep
      have hz := HB.out.size
      have HC := Lib.hid fun W (hW : Below wr.heap.size wr W) => H.out W k hlt hltm _ _ (OprV.below ⟨_, _, _, _, _, _, rfl, yy, yz⟩ hW) (OprV.below ⟨_, _, _, _, _, _, rfl, zy, zz⟩ hW) (HB.out.trans (hW.mono hz))
      clear yy yz zy zz
      generalize eqB L[k] M[k] = pk at *
      generalize (L[k].kind.toNat : Int) = kk at *
      generalize L[k].many = mm at *
      generalize (M[k].kind.toNat : Int) = kkm at *
      generalize M[k].many = mmm at *
      generalize (⟨L[k].name.toArray⟩ : ByteArray) = x0 at *
      generalize (⟨M[k].name.toArray⟩ : ByteArray) = x0m at *
      have pb := lt_of_cell yq0
      have qb := lt_of_cell zq0
      go_upto_region 7 with fail
      obtain ⟨w2, hw2⟩ : ∃ w2, (wr.alloc (.cells #[.int .u8 kk, .string x0, .slice y0 y1 y2, .int .i64 mm, .slice y3 y4 y5] 35 (0, 0))).alloc (.cells #[.int .u8 kkm, .string x0m, .slice z0 z1 z2, .int .i64 mmm, .slice z3 z4 z5] 35 (0, 0)) = w2 := ⟨_, rfl⟩
      have HBA : Hid (Below wr.heap.size wr w2) := Lib.hid (by rw [← hw2]; exact ((Below.refl _ _).alloc (Nat.le_refl _) _).alloc (by simp) _)
      have k1 : w2.heap[wr.heap.size]? = some (.cells #[.int .u8 kk, .string x0, .slice y0 y1 y2, .int .i64 mm, .slice y3 y4 y5] 35 (0, 0)) := by rw [← hw2]; exact heap_old (heap_new _ _ _ rfl)
      have k2 : w2.heap[wr.heap.size + 1]? = some (.cells #[.int .u8 kkm, .string x0m, .slice z0 z1 z2, .int .i64 mmm, .slice z3 z4 z5] 35 (0, 0)) := by rw [← hw2]; exact heap_new _ _ _ (by simp)
      have d0x : w2.cell? ⟨wr.heap.size, 0, none⟩ = some (.int .u8 kk) := (Lib.cell_of_heap k1 0).trans rfl
      have d1x : w2.cell? ⟨wr.heap.size, 1, none⟩ = some (.string x0) := (Lib.cell_of_heap k1 1).trans rfl
      have d2x : w2.cell? ⟨wr.heap.size, 2, none⟩ = some (.slice y0 y1 y2) := (Lib.cell_of_heap k1 2).trans rfl
      have d3x : w2.cell? ⟨wr.heap.size, 3, none⟩ = some (.int .i64 mm) := (Lib.cell_of_heap k1 3).trans rfl
      have d4x : w2.cell? ⟨wr.heap.size, 4, none⟩ = some (.slice y3 y4 y5) := (Lib.cell_of_heap k1 4).trans rfl
      have d0y : w2.cell? ⟨wr.heap.size + 1, 0, none⟩ = some (.int .u8 kkm) := (Lib.cell_of_heap k2 0).trans rfl
      have d1y : w2.cell? ⟨wr.heap.size + 1, 1, none⟩ = some (.string x0m) := (Lib.cell_of_heap k2 1).trans rfl
      have d2y : w2.cell? ⟨wr.heap.size + 1, 2, none⟩ = some (.slice z0 z1 z2) := (Lib.cell_of_heap k2 2).trans rfl
      have d3y : w2.cell? ⟨wr.heap.size + 1, 3, none⟩ = some (.int .i64 mmm) := (Lib.cell_of_heap k2 3).trans rfl
      have d4y : w2.cell? ⟨wr.heap.size + 1, 4, none⟩ = some (.slice z3 z4 z5) := (Lib.cell_of_heap k2 4).trans rfl
      try rw [hw2]
      clear hw2 k1 k2
      cases pk with
      | false =>
        rw [Bool.false_and] at hstep
        have HF := Lib.hid hstep
        clear hstep HS
        go_wp2_with fail
        refine (HC.out _ HBA.out).mono ?_; rintro e w1 ⟨rfl, hb⟩
        have HB1 := Lib.hid (HB.out.trans ((HBA.out.trans (hb.mono HBA.out.size)).mono hz))
        clear hb
        go_wp2_with fail
        go_ret
        exact ⟨ret_b HF.out, HB1.out⟩
      | true =>
        rw [Bool.true_and] at hstep
        have HF := Lib.hid hstep
        clear hstep HS
        go_wp2_with fail
        refine (HC.out _ HBA.out).mono ?_; rintro e w1 ⟨rfl, hb⟩
        have HB1 := Lib.hid (HB.out.trans ((HBA.out.trans (hb.mono HBA.out.size)).mono hz))
        clear hb
        go_wp2_with fail
        go_roundw
        case rel => exact ⟨k + 1, by omega, by go_num, HF, HB1⟩
        case measure => simp [intOf]; omega
    · have HF : Hid (true = r) := Lib.hid (by
        have hm : M.length = L.length := HM.out.symm
        rw [← HS.out, List.drop_of_length_le (by omega), List.drop_of_length_le (by omega)]
        exact (eqB_self _).symm)
      clear HS
      go_wp2_with fail
      go_ret
      exact ⟨ret_b HF.out, HB.out⟩
theorem opr_eqf (g : Nat) (lb : Array Value) (eg : ∀ args w, (callFunc g args).run Tryz.prog w = .ok (.enter g args) w) (L M : List (OpD)) (u v : Value) (hl : L.length ≤ 100000) (hm : M.length ≤ 100000) (w : World) (h1 : OprSl u L w) (h2 : OprSl v M w)
    (H : Hid (∀ (W : World) (k : Nat) (hk : k < L.length) (hk' : k < M.length) (u v : Value), OprV u L[k] W → OprV v M[k] W → Below w.heap.size w W → Calls Tryz.prog g (#[u, v] ++ lb) W fun e w' => e = .returned (.bool (eqB L[k] M[k])) ∧ Below W.heap.size W w')) :
    Calls Tryz.prog 27 #[u, v, .func (.func g) #[] lb] w fun e w' => e = .returned (.bool (eqB L M)) ∧ Below w.heap.size w w' := by
  by_cases hlm : L.length = M.length
  · rcases h1 with ⟨a1, c1, rfl, rfl⟩ | ⟨b1, o1, c1, rfl, h1, p1⟩
    · obtain rfl : M = [] := List.eq_nil_of_length_eq_zero hlm.symm
      rw [eqB_self]
      rcases h2 with ⟨a2, c2, rfl, _⟩ | ⟨b2, o2, c2, rfl, h2, p2⟩
      · exact opr_eqf_none g lb a1 a2 c1 c2 w
      · exact opr_eqf_none g lb a1 _ c1 c2 w
    · rcases h2 with ⟨a2, c2, rfl, rfl⟩ | ⟨b2, o2, c2, rfl, h2, p2⟩
      · obtain rfl : L = [] := List.eq_nil_of_length_eq_zero hlm
        rw [eqB_self]
        exact opr_eqf_none g lb _ a2 c1 c2 w
      · rw [← hlm]
        exact opr_eqf_row g lb eg L M b1 o1 c1 b2 o2 c2 hl hlm w h1 h2 H
  · rw [eqB_len hlm]
    rcases h1 with ⟨a1, c1, rfl, rfl⟩ | ⟨b1, o1, c1, rfl, h1, p1⟩
    · rcases h2 with ⟨a2, c2, rfl, rfl⟩ | ⟨b2, o2, c2, rfl, h2, p2⟩
      · exact absurd rfl hlm
      · exact opr_eqf_len g lb a1 _ _ _ 0 _ (by omega) hm hlm w
    · rcases h2 with ⟨a2, c2, rfl, rfl⟩ | ⟨b2, o2, c2, rfl, h2, p2⟩
      · exact opr_eqf_len g lb _ a2 _ _ _ 0 hl (by omega) hlm w
      · exact opr_eqf_len g lb _ _ _ _ _ _ hl hm hlm w
set_option maxRecDepth 100000 in
theorem frg_eqf_len (g : Nat) (lb : Array Value) (v1 v2 : Option Addr) (c1 c2 : Nat) (n m : Nat) (hn : n ≤ 100000) (hm : m ≤ 100000) (hne : n ≠ m) (w : World) :
    Calls Tryz.prog 28 #[.slice v1 n c1, .slice v2 m c2, .func (.func g) #[] lb] w fun e w' => e = .returned (.bool false) ∧ Below w.heap.size w w' := by
  have h1 : ((n : Int) != (m : Int)) = true := by rw [bne_iff_ne]; omega
  clear hne
  go_enter Tryz.func28, Tryz.ntmps28
  go_wp2_with fail
  go_ret
  exact ⟨rfl, Below.refl _ _⟩
set_option maxRecDepth 100000 in
theorem frg_eqf_none (g : Nat) (lb : Array Value) (a v : Option Addr) (c1 c2 : Nat) (w : World) :
    Calls Tryz.prog 28 #[.slice a 0 c1, .slice v 0 c2, .func (.func g) #[] lb] w fun e w' => e = .returned (.bool true) ∧ Below w.heap.size w w' := by
  go_enter Tryz.func28, Tryz.ntmps28
  go_wp2_with fail
  refine wp_loop_rounds 1 ?_; rw [rounds_succ]
  go_wp2_with fail
  go_ret
  exact ⟨rfl, Below.refl _ _⟩
set_option maxRecDepth 100000 in
set_option maxHeartbeats 4000000 in
theorem frg_eqf_row (g : Nat) (lb : Array Value) (eg : ∀ args w, (callFunc g args).run Tryz.prog w = .ok (.enter g args) w) (L M : List (FrgD)) (b1 o1 c1 b2 o2 c2 : Nat) (hl : L.length ≤ 100000) (hlm : L.length = M.length) (w : World) (h1 : RowG 4 FrgE ⟨b1, o1, none⟩ L w) (h2 : RowG 4 FrgE ⟨b2, o2, none⟩ M w)
    (H : Hid (∀ (W : World) (k : Nat) (hk : k < L.length) (hk' : k < M.length) (u v : Value), FrgV u L[k] W → FrgV v M[k] W → Below w.heap.size w W → Calls Tryz.prog g (#[u, v] ++ lb) W fun e w' => e = .returned (.bool (eqB L[k] M[k])) ∧ Below W.heap.size W w')) :
    Calls Tryz.prog 28 #[.slice (some ⟨b1, o1, none⟩) L.length c1, .slice (some ⟨b2, o2, none⟩) L.length c2, .func (.func g) #[] lb] w fun e w' => e = .returned (.bool (eqB L M)) ∧ Below w.heap.size w w' := by
  have H1 := Lib.hid h1
  have H2 := Lib.hid h2
  have HM := Lib.hid hlm
  obtain ⟨r, hr⟩ : ∃ r, eqB L M = r := ⟨_, rfl⟩
  have HR : Hid (eqB (L.drop 0) (M.drop 0) = r) := Lib.hid hr
  rw [hr]
  clear hr h1 h2 hlm
  have hnn : ((L.length : Int) != (L.length : Int)) = false := by rw [bne_eq_false_iff_eq]
  go_enter Tryz.func28, Tryz.ntmps28
  go_wp2_with fail
  go_loopw [17] (fun i wr => ∃ k : Nat, k ≤ L.length ∧ i = .int .i64 k ∧ Hid (eqB (L.drop k) (M.drop k) = r) ∧ Hid (Below w.heap.size w wr)) (fun i wr => L.length - (intOf i).toNat)
  case atStart => exact ⟨0, Nat.zero_le _, rfl, HR, Lib.hid (Below.refl _ _)⟩
  case round =>
    rename World => wr
    obtain ⟨k, hk, rfl, HS, HB⟩ := hrel
    by_cases hlt : k < L.length
    · have hltm : k < M.length := by rw [← HM.out]; exact hlt
      obtain ⟨y0, y1, y2, yq0, yq1, yq2, yq3, yy⟩ := Frg_at (RowG.below H1.out fun _ _ h => FrgE.below h HB.out) k hlt
      obtain ⟨z0, z1, z2, zq0, zq1, zq2, zq3, zy⟩ := Frg_at (RowG.below H2.out fun _ _ h => FrgE.below h HB.out) k hltm
      have hstep := HS.out
      rw [eqB_drop _ _ k hlt hltm] at hstep
      have hz := HB.out.size
      have HC := Lib.hid fun W (hW : Below wr.heap.size wr W) => H.out W k hlt hltm _ _ (FrgV.below ⟨_, _, _, rfl, yy⟩ hW) (FrgV.below ⟨_, _, _, rfl, zy⟩ hW) (HB.out.trans (hW.mono hz))
      clear yy zy
      generalize eqB L[k] M[k] = pk at *
      generalize L[k].many = mm at *
      generalize M[k].many = mmm at *
      generalize (⟨L[k].name.toArray⟩ : ByteArray) = x0 at *
      generalize (⟨M[k].name.toArray⟩ : ByteArray) = x0m at *
      generalize (⟨L[k].on.toArray⟩ : ByteArray) = x1 at *
      generalize (⟨M[k].on.toArray⟩ : ByteArray) = x1m at *
      have pb := lt_of_cell yq0
      have qb := lt_of_cell zq0
      go_upto_region 7 with fail
      obtain ⟨w2, hw2⟩ : ∃ w2, (wr.alloc (.cells #[.string x0, .string x1, .int .i64 mm, .slice y0 y1 y2] 38 (0, 0))).alloc (.cells #[.string x0m, .string x1m, .int .i64 mmm, .slice z0 z1 z2] 38 (0, 0)) = w2 := ⟨_, rfl⟩
      have HBA : Hid (Below wr.heap.size wr w2) := Lib.hid (by rw [← hw2]; exact ((Below.refl _ _).alloc (Nat.le_refl _) _).alloc (by simp) _)
      have k1 : w2.heap[wr.heap.size]? = some (.cells #[.string x0, .string x1, .int .i64 mm, .slice y0 y1 y2] 38 (0, 0)) := by rw [← hw2]; exact heap_old (heap_new _ _ _ rfl)
      have k2 : w2.heap[wr.heap.size + 1]? = some (.cells #[.string x0m, .string x1m, .int .i64 mmm, .slice z0 z1 z2] 38 (0, 0)) := by rw [← hw2]; exact heap_new _ _ _ (by simp)
      have d0x : w2.cell? ⟨wr.heap.size, 0, none⟩ = some (.string x0) := (Lib.cell_of_heap k1 0).trans rfl
      have d1x : w2.cell? ⟨wr.heap.size, 1, none⟩ = some (.string x1) := (Lib.cell_of_heap k1 1).trans rfl
      have d2x : w2.cell? ⟨wr.heap.size, 2, none⟩ = some (.int .i64 mm) := (Lib.cell_of_heap k1 2).trans rfl
      have d3x : w2.cell? ⟨wr.heap.size, 3, none⟩ = some (.slice y0 y1 y2) := (Lib.cell_of_heap k1 3).trans rfl
      have d0y : w2.cell? ⟨wr.heap.size + 1, 0, none⟩ = some (.string x0m) := (Lib.cell_of_heap k2 0).trans rfl
      have d1y : w2.cell? ⟨wr.heap.size + 1, 1, none⟩ = some (.string x1m) := (Lib.cell_of_heap k2 1).trans rfl
      have d2y : w2.cell? ⟨wr.heap.size + 1, 2, none⟩ = some (.int .i64 mmm) := (Lib.cell_of_heap k2 2).trans rfl
      have d3y : w2.cell? ⟨wr.heap.size + 1, 3, none⟩ = some (.slice z0 z1 z2) := (Lib.cell_of_heap k2 3).trans rfl
      try rw [hw2]
      clear hw2 k1 k2
      cases pk with
      | false =>
        rw [Bool.false_and] at hstep
        have HF := Lib.hid hstep
        clear hstep HS
        go_wp2_with fail
        refine (HC.out _ HBA.out).mono ?_; rintro e w1 ⟨rfl, hb⟩
        have HB1 := Lib.hid (HB.out.trans ((HBA.out.trans (hb.mono HBA.out.size)).mono hz))
        clear hb
        go_wp2_with fail
        go_ret
        exact ⟨ret_b HF.out, HB1.out⟩
      | true =>
        rw [Bool.true_and] at hstep
        have HF := Lib.hid hstep
        clear hstep HS
        go_wp2_with fail
        refine (HC.out _ HBA.out).mono ?_; rintro e w1 ⟨rfl, hb⟩
        have HB1 := Lib.hid (HB.out.trans ((HBA.out.trans (hb.mono HBA.out.size)).mono hz))
        clear hb
        go_wp2_with fail
        go_roundw
        case rel => exact ⟨k + 1, by omega, by go_num, HF, HB1⟩
        case measure => simp [intOf]; omega
    · have HF : Hid (true = r) := Lib.hid (by
        have hm : M.length = L.length := HM.out.symm
        rw [← HS.out, List.drop_of_length_le (by omega), List.drop_of_length_le (by omega)]
        exact (eqB_self _).symm)
      clear HS
      go_wp2_with fail
      go_ret
      exact ⟨ret_b HF.out, HB.out⟩
theorem frg_eqf (g : Nat) (lb : Array Value) (eg : ∀ args w, (callFunc g args).run Tryz.prog w = .ok (.enter g args) w) (L M : List (FrgD)) (u v : Value) (hl : L.length ≤ 100000) (hm : M.length ≤ 100000) (w : World) (h1 : FrgSl u L w) (h2 : FrgSl v M w)
    (H : Hid (∀ (W : World) (k : Nat) (hk : k < L.length) (hk' : k < M.length) (u v : Value), FrgV u L[k] W → FrgV v M[k] W → Below w.heap.size w W → Calls Tryz.prog g (#[u, v] ++ lb) W fun e w' => e = .returned (.bool (eqB L[k] M[k])) ∧ Below W.heap.size W w')) :
    Calls Tryz.prog 28 #[u, v, .func (.func g) #[] lb] w fun e w' => e = .returned (.bool (eqB L M)) ∧ Below w.heap.size w w' := by
  by_cases hlm : L.length = M.length
  · rcases h1 with ⟨a1, c1, rfl, rfl⟩ | ⟨b1, o1, c1, rfl, h1, p1⟩
    · obtain rfl : M = [] := List.eq_nil_of_length_eq_zero hlm.symm
      rw [eqB_self]
      rcases h2 with ⟨a2, c2, rfl, _⟩ | ⟨b2, o2, c2, rfl, h2, p2⟩
      · exact frg_eqf_none g lb a1 a2 c1 c2 w
      · exact frg_eqf_none g lb a1 _ c1 c2 w
    · rcases h2 with ⟨a2, c2, rfl, rfl⟩ | ⟨b2, o2, c2, rfl, h2, p2⟩
      · obtain rfl : L = [] := List.eq_nil_of_length_eq_zero hlm
        rw [eqB_self]
        exact frg_eqf_none g lb _ a2 c1 c2 w
      · rw [← hlm]
        exact frg_eqf_row g lb eg L M b1 o1 c1 b2 o2 c2 hl hlm w h1 h2 H
  · rw [eqB_len hlm]
    rcases h1 with ⟨a1, c1, rfl, rfl⟩ | ⟨b1, o1, c1, rfl, h1, p1⟩
    · rcases h2 with ⟨a2, c2, rfl, rfl⟩ | ⟨b2, o2, c2, rfl, h2, p2⟩
      · exact absurd rfl hlm
      · exact frg_eqf_len g lb a1 _ _ _ 0 _ (by omega) hm hlm w
    · rcases h2 with ⟨a2, c2, rfl, rfl⟩ | ⟨b2, o2, c2, rfl, h2, p2⟩
      · exact frg_eqf_len g lb _ a2 _ _ _ 0 hl (by omega) hlm w
      · exact frg_eqf_len g lb _ _ _ _ _ _ hl hm hlm w
end Go.Proofs.YtbejhdhhkpllfaaGreatDoor
