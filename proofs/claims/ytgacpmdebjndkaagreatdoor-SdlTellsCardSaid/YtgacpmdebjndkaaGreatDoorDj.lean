/- The reference's sameFields, Same (sdl). -/
import Derived.Test.YtgacpmdebjndkaaGreatDoorDi
import Derived.Test.YtgacpmdebjndkaaGreatDoorDt
import Derived.BigRegion
set_option linter.unusedSimpArgs false
set_option linter.unusedVariables false
namespace Go.Proofs.YtgacpmdebjndkaaGreatDoor
open Go.RowKit
set_option maxRecDepth 100000 in
theorem rsf_len (v1 v2 : Option Addr) (c1 c2 : Nat) (n m : Nat) (hn : n ≤ 100000) (hm : m ≤ 100000) (hne : n ≠ m) (w : World) :
    Calls Tryz.prog 35 #[.slice v1 n c1, .slice v2 m c2] w fun e w' => e = .returned (.bool false) ∧ Below w.heap.size w w' := by
  have h1 : ((n : Int) != (m : Int)) = true := by rw [bne_iff_ne]; omega
  clear hne
  go_enter Tryz.func35, Tryz.ntmps35
  go_wp2_with fail
  go_ret
  exact ⟨rfl, Below.refl _ _⟩
set_option maxRecDepth 100000 in
theorem rsf_none (a v : Option Addr) (c1 c2 : Nat) (w : World) :
    Calls Tryz.prog 35 #[.slice a 0 c1, .slice v 0 c2] w fun e w' => e = .returned (.bool true) ∧ Below w.heap.size w w' := by
  go_enter Tryz.func35, Tryz.ntmps35
  go_wp2_with fail
  refine wp_loop_rounds 1 ?_; rw [rounds_succ]
  go_wp2_with fail
  go_ret
  exact ⟨rfl, Below.refl _ _⟩
set_option maxRecDepth 100000 in
set_option maxHeartbeats 8000000 in
theorem rsf_row (L M : List (Fld)) (b1 o1 c1 b2 o2 c2 : Nat) (hl : L.length ≤ 100000) (hlm : L.length = M.length) (w : World) (h1 : RowG 5 FldE ⟨b1, o1, none⟩ L w) (h2 : RowG 5 FldE ⟨b2, o2, none⟩ M w) (hs1 : ∀ x ∈ L, FldSm x) (hs2 : ∀ x ∈ M, FldSm x) :
    Calls Tryz.prog 35 #[.slice (some ⟨b1, o1, none⟩) L.length c1, .slice (some ⟨b2, o2, none⟩) L.length c2] w fun e w' => e = .returned (.bool (eqB L M)) ∧ Below w.heap.size w w' := by
  have H1 := Lib.hid h1
  have H2 := Lib.hid h2
  have HS1 := Lib.hid hs1
  have HS2 := Lib.hid hs2
  have HM := Lib.hid hlm
  obtain ⟨Z, hZ⟩ : ∃ Z, eqB L M = Z := ⟨_, rfl⟩
  have HZ0 : Hid (eqB (L.drop 0) (M.drop 0) = Z) := Lib.hid hZ
  rw [hZ]
  obtain ⟨n, hn⟩ : ∃ n, L.length = n := ⟨_, rfl⟩
  have HN := Lib.hid hn
  rw [hn]
  rw [hn] at hl
  clear h1 h2 hs1 hs2 hlm hZ hn
  have hnn : ((n : Int) != (n : Int)) = false := by rw [bne_eq_false_iff_eq]
  go_enter Tryz.func35, Tryz.ntmps35
  go_wp2_with fail
  go_loopg [5] (n + 1) (fun gk iv wr => ∃ i : Nat, iv = .int .i64 (i : Int) ∧ (gk + i ≤ n + 1 ∧ n + 1 ≤ gk + i) ∧ i ≤ n ∧ Hid (eqB (L.drop i) (M.drop i) = Z) ∧ Hid (Below w.heap.size w wr))
  case atStart => exact ⟨0, by go_num, ⟨by omega, by omega⟩, by omega, HZ0, Lib.hid (Below.refl _ _)⟩
  case round =>
    clear HZ0
    rename World => wr
    obtain ⟨i, rfl, ⟨hg1, hg2⟩, hi, HQ, HB⟩ := hrel
    obtain ⟨g, rfl⟩ : ∃ g, gk = g + 1 := ⟨gk - 1, by omega⟩
    have HGG := Lib.hid (And.intro hg1 hg2)
    clear hg1 hg2
    by_cases hin : i < n
    · have hil : i < L.length := by have := HN.out; omega
      have him : i < M.length := by rw [← HM.out]; exact hil
      obtain ⟨y0, y1, y2, y3, y4, y5, y6, y7, y8, yq0, yq1, yq2, yq3, yq4, yy, yz, yu⟩ := fld_at (RowG.below H1.out fun _ _ h => FldE.below h HB.out) i hil
      obtain ⟨z0, z1, z2, z3, z4, z5, z6, z7, z8, zq0, zq1, zq2, zq3, zq4, zy, zz, zu⟩ := fld_at (RowG.below H2.out fun _ _ h => FldE.below h HB.out) i him
      have sm1 := HS1.out L[i] (List.getElem_mem hil)
      have sm2 := HS2.out M[i] (List.getElem_mem him)
      have hq := HQ.out
      rw [eqB_drop _ _ i hil him, eqB_fld] at hq
      have hz := HB.out.size
      obtain ⟨t0, ht0⟩ : ∃ t : Bool, eqB L[i].name M[i].name = t := ⟨_, rfl⟩
      rw [ht0] at hq
      have he0 := (eqB_str L[i].name M[i].name).trans ht0
      obtain ⟨t1, ht1⟩ : ∃ t : Bool, (eqB L[i].args M[i].args) = t := ⟨_, rfl⟩
      have HC1 : Hid (∀ W, Below wr.heap.size wr W → Calls Tryz.prog 34 #[.slice y0 y1 y2, .slice z0 z1 z2] W fun e w' => e = .returned (.bool t1) ∧ Below W.heap.size W w') := Lib.hid fun W hW => by
        rw [← ht1]
        exact rsi_eq _ _ _ _ W (InpSl.below yy hW) (InpSl.below zy hW) sm1.2.2.2.1 sm2.2.2.2.1
      rw [ht1] at hq
      obtain ⟨t2, ht2⟩ : ∃ t : Bool, (eqB L[i].tnm M[i].tnm && eqB L[i].wr M[i].wr) = t := ⟨_, rfl⟩
      have HC2 : Hid (∀ W, Below wr.heap.size wr W → Calls Tryz.prog 59 #[.agg #[.string ⟨L[i].tnm.toArray⟩, .slice y3 y4 y5], .agg #[.string ⟨M[i].tnm.toArray⟩, .slice z3 z4 z5]] W fun e w' => e = .returned (.bool t2) ∧ Below W.heap.size W w') := Lib.hid fun W hW => by
        rw [← ht2]
        exact rsty_any _ _ _ _ _ _ _ _ _ _ W (yz.below hW) (zz.below hW)
      rw [ht2] at hq
      obtain ⟨t3, ht3⟩ : ∃ t : Bool, (eqB L[i].dirs M[i].dirs) = t := ⟨_, rfl⟩
      have HC3 : Hid (∀ W, Below wr.heap.size wr W → Calls Tryz.prog 32 #[.slice y6 y7 y8, .slice z6 z7 z8] W fun e w' => e = .returned (.bool t3) ∧ Below W.heap.size W w') := Lib.hid fun W hW => by
        rw [← ht3]
        exact rsd_eq _ _ _ _ W (DirSlc.below yu hW) (DirSlc.below zu hW) sm1.2.2.2.2 sm2.2.2.2.2
      rw [ht3] at hq
      have HQ2 := Lib.hid hq
      clear hq HQ sm1 sm2 ht0 ht1 ht2 ht3 yy yz yu zy zz zu
      generalize (⟨L[i].name.toArray⟩ : ByteArray) = x0 at *
      generalize (⟨M[i].name.toArray⟩ : ByteArray) = x0m at *
      generalize (⟨L[i].tnm.toArray⟩ : ByteArray) = x1 at *
      generalize (⟨M[i].tnm.toArray⟩ : ByteArray) = x1m at *
      have hi1 : (i : Int).toNat = i := by omega
      have hi2 : (0 : Int) ≤ (i : Int) := by omega
      have hi3 : (i : Int) < (n : Int) := by omega
      have hi4 : IntKind.i64.wrap ((i : Int) + 1) = ((i + 1 : Nat) : Int) := by rw [IntWalk.i64_in _ (by omega)]; omega
      have MK : Hid (∀ W, Below wr.heap.size wr W → (fun W => Below wr.heap.size wr W ∧ W.cell? ⟨b1, o1 + i * 5, none⟩ = some (.string x0) ∧ W.cell? ⟨b1, o1 + i * 5 + 1, none⟩ = some (.slice y0 y1 y2) ∧ W.cell? ⟨b1, o1 + i * 5 + 2, none⟩ = some (.string x1) ∧ W.cell? ⟨b1, o1 + i * 5 + 3, none⟩ = some (.slice y3 y4 y5) ∧ W.cell? ⟨b1, o1 + i * 5 + 4, none⟩ = some (.slice y6 y7 y8) ∧ W.cell? ⟨b2, o2 + i * 5, none⟩ = some (.string x0m) ∧ W.cell? ⟨b2, o2 + i * 5 + 1, none⟩ = some (.slice z0 z1 z2) ∧ W.cell? ⟨b2, o2 + i * 5 + 2, none⟩ = some (.string x1m) ∧ W.cell? ⟨b2, o2 + i * 5 + 3, none⟩ = some (.slice z3 z4 z5) ∧ W.cell? ⟨b2, o2 + i * 5 + 4, none⟩ = some (.slice z6 z7 z8)) W) := Lib.hid fun W hW => ⟨hW, (hW.cell (p := ⟨_, _, none⟩) (lt_of_cell yq0)).trans yq0, (hW.cell (p := ⟨_, _, none⟩) (lt_of_cell yq1)).trans yq1, (hW.cell (p := ⟨_, _, none⟩) (lt_of_cell yq2)).trans yq2, (hW.cell (p := ⟨_, _, none⟩) (lt_of_cell yq3)).trans yq3, (hW.cell (p := ⟨_, _, none⟩) (lt_of_cell yq4)).trans yq4, (hW.cell (p := ⟨_, _, none⟩) (lt_of_cell zq0)).trans zq0, (hW.cell (p := ⟨_, _, none⟩) (lt_of_cell zq1)).trans zq1, (hW.cell (p := ⟨_, _, none⟩) (lt_of_cell zq2)).trans zq2, (hW.cell (p := ⟨_, _, none⟩) (lt_of_cell zq3)).trans zq3, (hW.cell (p := ⟨_, _, none⟩) (lt_of_cell zq4)).trans zq4⟩
      have pb := lt_of_cell yq0
      have qb := lt_of_cell zq0
      go_wp2_with fail
      refine wp_region_held_drew (S := fun W => Below wr.heap.size wr W ∧ W.cell? ⟨b1, o1 + i * 5, none⟩ = some (.string x0) ∧ W.cell? ⟨b1, o1 + i * 5 + 1, none⟩ = some (.slice y0 y1 y2) ∧ W.cell? ⟨b1, o1 + i * 5 + 2, none⟩ = some (.string x1) ∧ W.cell? ⟨b1, o1 + i * 5 + 3, none⟩ = some (.slice y3 y4 y5) ∧ W.cell? ⟨b1, o1 + i * 5 + 4, none⟩ = some (.slice y6 y7 y8) ∧ W.cell? ⟨b2, o2 + i * 5, none⟩ = some (.string x0m) ∧ W.cell? ⟨b2, o2 + i * 5 + 1, none⟩ = some (.slice z0 z1 z2) ∧ W.cell? ⟨b2, o2 + i * 5 + 2, none⟩ = some (.string x1m) ∧ W.cell? ⟨b2, o2 + i * 5 + 3, none⟩ = some (.slice z3 z4 z5) ∧ W.cell? ⟨b2, o2 + i * 5 + 4, none⟩ = some (.slice z6 z7 z8)) (by kernel_rfl) (MK.out _ ⟨rfl, rfl, rfl, Nat.le_refl _, fun _ _ => rfl⟩) (fun hHeld => ?_)
      refine tky 0 (some 17) (v := ?_) rfl (by kernel_rfl) (by kernel_rfl) (by kernel_rfl) (fun _ _ _ h => h) ?_ hHeld ?_
      rotate_left
      focus (intro w hSw; (try dsimp only at hSw); go_simp; (try with_reducible rfl); done)
      simp only [Act.put, List.setIfInBounds_toArray, List.set_cons_zero, List.set_cons_succ]
      refine tky 1 (some 18) (v := ?_) rfl (by kernel_rfl) (by kernel_rfl) (by kernel_rfl) (fun _ _ _ h => h) ?_ hHeld ?_
      rotate_left
      focus (intro w hSw; (try dsimp only at hSw); go_simp; (try with_reducible rfl); done)
      simp only [Act.put, List.setIfInBounds_toArray, List.set_cons_zero, List.set_cons_succ]
      refine tky 2 (some 19) (v := ?_) rfl (by kernel_rfl) (by kernel_rfl) (by kernel_rfl) (fun _ _ _ h => h) ?_ hHeld ?_
      rotate_left
      focus (intro w hSw; (try dsimp only at hSw); go_simp; (try with_reducible rfl); done)
      simp only [Act.put, List.setIfInBounds_toArray, List.set_cons_zero, List.set_cons_succ]
      refine tky 3 (some 20) (v := ?_) rfl (by kernel_rfl) (by kernel_rfl) (by kernel_rfl) (fun _ _ _ h => h) ?_ hHeld ?_
      rotate_left
      focus (intro w hSw; (try dsimp only at hSw); go_simp; (try with_reducible rfl); done)
      simp only [Act.put, List.setIfInBounds_toArray, List.set_cons_zero, List.set_cons_succ]
      refine tky 4 (some 21) (v := ?_) rfl (by kernel_rfl) (by kernel_rfl) (by kernel_rfl) (fun _ _ _ h => h) ?_ hHeld ?_
      rotate_left
      focus (intro w hSw; (try dsimp only at hSw); go_simp; (try with_reducible rfl); done)
      simp only [Act.put, List.setIfInBounds_toArray, List.set_cons_zero, List.set_cons_succ]
      refine tky 5 (some 22) (v := ?_) rfl (by kernel_rfl) (by kernel_rfl) (by kernel_rfl) (fun _ _ _ h => h) ?_ hHeld ?_
      rotate_left
      focus (intro w hSw; (try dsimp only at hSw); go_simp; (try with_reducible rfl); done)
      simp only [Act.put, List.setIfInBounds_toArray, List.set_cons_zero, List.set_cons_succ]
      refine tky 6 (some 23) (v := ?_) rfl (by kernel_rfl) (by kernel_rfl) (by kernel_rfl) (fun _ _ _ h => h) ?_ hHeld ?_
      rotate_left
      focus (intro w hSw; (try dsimp only at hSw); go_simp; (try with_reducible rfl); done)
      simp only [Act.put, List.setIfInBounds_toArray, List.set_cons_zero, List.set_cons_succ]
      refine tky 7 (some 24) (v := ?_) rfl (by kernel_rfl) (by kernel_rfl) (by kernel_rfl) (fun _ _ _ h => h) ?_ hHeld ?_
      rotate_left
      focus (intro w hSw; (try dsimp only at hSw); go_simp; (try with_reducible rfl); done)
      simp only [Act.put, List.setIfInBounds_toArray, List.set_cons_zero, List.set_cons_succ]
      refine tky 8 (some 25) (v := ?_) rfl (by kernel_rfl) (by kernel_rfl) (by kernel_rfl) (fun _ _ _ h => h) ?_ hHeld ?_
      rotate_left
      focus (intro w hSw; (try dsimp only at hSw); go_simp; (try with_reducible rfl); done)
      simp only [Act.put, List.setIfInBounds_toArray, List.set_cons_zero, List.set_cons_succ]
      refine tky 9 (some 26) (v := ?_) rfl (by kernel_rfl) (by kernel_rfl) (by kernel_rfl) (fun _ _ _ h => h) ?_ hHeld ?_
      rotate_left
      focus (intro w hSw; (try dsimp only at hSw); go_simp; (try with_reducible rfl); done)
      simp only [Act.put, List.setIfInBounds_toArray, List.set_cons_zero, List.set_cons_succ]
      cases t0 with
      | false =>
        refine tky 10 (some 27) (v := ?_) rfl (by kernel_rfl) (by kernel_rfl) (by kernel_rfl) (fun _ _ _ h => h) ?_ hHeld ?_
        rotate_left
        focus (intro w hSw; (try dsimp only at hSw); go_simp; (try with_reducible rfl); done)
        simp only [Act.put, List.setIfInBounds_toArray, List.set_cons_zero, List.set_cons_succ]
        refine tks (fun _ d _ _ _ h => by cases d <;> exact h) hHeld [(11, some 28, some true), (12, some 29, none), (13, some 30, none), (14, some 31, none), (15, some 32, none), (16, some 33, none), (17, some 34, none), (18, some 35, none), (19, some 36, none), (20, some 37, none), (21, some 38, none), (22, some 39, none), (23, some 40, none), (24, some 41, some true), (25, some 42, some true), (26, some 43, none), (27, some 44, none), (28, some 45, none), (29, some 46, none), (30, some 47, none), (31, some 48, none), (32, some 49, none), (33, some 50, none), (34, some 51, none), (35, some 52, none), (36, some 53, none), (37, some 54, none), (38, some 55, some true), (39, some 56, some true), (40, some 57, none), (41, some 58, none), (42, some 59, none), (43, some 60, none), (44, some 61, none), (45, some 62, none), (46, some 63, none), (47, some 64, none), (48, some 65, none), (49, some 66, none), (50, some 67, none), (51, some 68, none), (52, some 69, some true)] 0 (by kernel_rfl) rfl ?_
        simp only [lstBy, actBy, vOf, Act.put, List.setIfInBounds_toArray, List.set_cons_zero, List.set_cons_succ]
        refine wpAnyH_done (by kernel_rfl) ?_ _
        have HF : Hid (false = Z) := Lib.hid (by rw [← HQ2.out]; rfl)
        have HBN : Hid (Below w.heap.size w _) := Lib.hid (HB.out.trans (hHeld.1.mono HB.out.size))
        go_wp2_with fail
        go_ret
        exact ⟨ret_b HF.out, HBN.out⟩
      | true =>
        refine tky 10 (some 27) (v := ?_) rfl (by kernel_rfl) (by kernel_rfl) (by kernel_rfl) (fun _ _ _ h => h) ?_ hHeld ?_
        rotate_left
        focus (intro w hSw; (try dsimp only at hSw); go_simp; (try with_reducible rfl); done)
        simp only [Act.put, List.setIfInBounds_toArray, List.set_cons_zero, List.set_cons_succ]
        refine tks (fun _ d _ _ _ h => by cases d <;> exact h) hHeld [(11, some 28, some false)] 41 (by kernel_rfl) rfl ?_
        simp only [lstBy, actBy, vOf, Act.put, List.setIfInBounds_toArray, List.set_cons_zero, List.set_cons_succ]
        refine tky 12 (some 29) (v := ?_) rfl (by kernel_rfl) (by kernel_rfl) (by kernel_rfl) (fun _ _ _ h => h) ?_ hHeld ?_
        rotate_left
        focus (intro w hSw; (try dsimp only at hSw); go_simp; (try with_reducible rfl); done)
        simp only [Act.put, List.setIfInBounds_toArray, List.set_cons_zero, List.set_cons_succ]
        refine tky 13 (some 30) (v := ?_) rfl (by kernel_rfl) (by kernel_rfl) (by kernel_rfl) (fun _ _ _ h => h) ?_ hHeld ?_
        rotate_left
        focus (intro w hSw; (try dsimp only at hSw); go_simp; (try with_reducible rfl); done)
        simp only [Act.put, List.setIfInBounds_toArray, List.set_cons_zero, List.set_cons_succ]
        refine tky 14 (some 31) (v := ?_) rfl (by kernel_rfl) (by kernel_rfl) (by kernel_rfl) (fun _ _ _ h => h) ?_ hHeld ?_
        rotate_left
        focus (intro w hSw; (try dsimp only at hSw); go_simp; (try with_reducible rfl); done)
        simp only [Act.put, List.setIfInBounds_toArray, List.set_cons_zero, List.set_cons_succ]
        refine tky 15 (some 32) (v := ?_) rfl (by kernel_rfl) (by kernel_rfl) (by kernel_rfl) (fun _ _ _ h => h) ?_ hHeld ?_
        rotate_left
        focus (intro w hSw; (try dsimp only at hSw); go_simp; (try with_reducible rfl); done)
        simp only [Act.put, List.setIfInBounds_toArray, List.set_cons_zero, List.set_cons_succ]
        refine tky 16 (some 33) (v := ?_) rfl (by kernel_rfl) (by kernel_rfl) (by kernel_rfl) (fun _ _ _ h => h) ?_ hHeld ?_
        rotate_left
        focus (intro w hSw; (try dsimp only at hSw); go_simp; (try with_reducible rfl); done)
        simp only [Act.put, List.setIfInBounds_toArray, List.set_cons_zero, List.set_cons_succ]
        refine tky 17 (some 34) (v := ?_) rfl (by kernel_rfl) (by kernel_rfl) (by kernel_rfl) (fun _ _ _ h => h) ?_ hHeld ?_
        rotate_left
        focus (intro w hSw; (try dsimp only at hSw); go_simp; (try with_reducible rfl); done)
        simp only [Act.put, List.setIfInBounds_toArray, List.set_cons_zero, List.set_cons_succ]
        refine tky 18 (some 35) (v := ?_) rfl (by kernel_rfl) (by kernel_rfl) (by kernel_rfl) (fun _ _ _ h => h) ?_ hHeld ?_
        rotate_left
        focus (intro w hSw; (try dsimp only at hSw); go_simp; (try with_reducible rfl); done)
        simp only [Act.put, List.setIfInBounds_toArray, List.set_cons_zero, List.set_cons_succ]
        refine tky 19 (some 36) (v := ?_) rfl (by kernel_rfl) (by kernel_rfl) (by kernel_rfl) (fun _ _ _ h => h) ?_ hHeld ?_
        rotate_left
        focus (intro w hSw; (try dsimp only at hSw); go_simp; (try with_reducible rfl); done)
        simp only [Act.put, List.setIfInBounds_toArray, List.set_cons_zero, List.set_cons_succ]
        refine tky 20 (some 37) (v := ?_) rfl (by kernel_rfl) (by kernel_rfl) (by kernel_rfl) (fun _ _ _ h => h) ?_ hHeld ?_
        rotate_left
        focus (intro w hSw; (try dsimp only at hSw); go_simp; (try with_reducible rfl); done)
        simp only [Act.put, List.setIfInBounds_toArray, List.set_cons_zero, List.set_cons_succ]
        refine tky 21 (some 38) (v := ?_) rfl (by kernel_rfl) (by kernel_rfl) (by kernel_rfl) (fun _ _ _ h => h) ?_ hHeld ?_
        rotate_left
        focus (intro w hSw; (try dsimp only at hSw); go_simp; (try with_reducible rfl); done)
        simp only [Act.put, List.setIfInBounds_toArray, List.set_cons_zero, List.set_cons_succ]
        cases t1 with
        | false =>
          refine rcons 22 rfl (by kernel_rfl) (fun K hK => ?_)
          go_simp
          refine (HC1.out _ hHeld.1).mono ?_; rintro e w5 ⟨rfl, hb⟩
          (try dsimp only)
          refine hK.out _ _ (MK.out _ (hHeld.1.trans (hb.mono hHeld.1.size))) (fun hHeld2 => ?_)
          clear hK K hHeld
          have hHeld := hHeld2
          clear hHeld2
          (try simp only [Act.put, List.setIfInBounds_toArray, List.set_cons_zero, List.set_cons_succ])
          refine tks (fun _ d _ _ _ h => by cases d <;> exact h) hHeld [(23, some 40, some true), (24, some 41, some true), (25, some 42, some true), (26, some 43, none), (27, some 44, none), (28, some 45, none), (29, some 46, none), (30, some 47, none), (31, some 48, none), (32, some 49, none), (33, some 50, none), (34, some 51, none), (35, some 52, none), (36, some 53, none), (37, some 54, none), (38, some 55, some true), (39, some 56, some true), (40, some 57, none), (41, some 58, none), (42, some 59, none), (43, some 60, none), (44, some 61, none), (45, some 62, none), (46, some 63, none), (47, some 64, none), (48, some 65, none), (49, some 66, none), (50, some 67, none), (51, some 68, none), (52, some 69, some true)] 0 (by kernel_rfl) rfl ?_
          simp only [lstBy, actBy, vOf, Act.put, List.setIfInBounds_toArray, List.set_cons_zero, List.set_cons_succ]
          refine wpAnyH_done (by kernel_rfl) ?_ _
          have HF : Hid (false = Z) := Lib.hid (by rw [← HQ2.out]; rfl)
          have HBN : Hid (Below w.heap.size w _) := Lib.hid (HB.out.trans (hHeld.1.mono HB.out.size))
          go_wp2_with fail
          go_ret
          exact ⟨ret_b HF.out, HBN.out⟩
        | true =>
          refine rcons 22 rfl (by kernel_rfl) (fun K hK => ?_)
          go_simp
          refine (HC1.out _ hHeld.1).mono ?_; rintro e w5 ⟨rfl, hb⟩
          (try dsimp only)
          refine hK.out _ _ (MK.out _ (hHeld.1.trans (hb.mono hHeld.1.size))) (fun hHeld2 => ?_)
          clear hK K hHeld
          have hHeld := hHeld2
          clear hHeld2
          (try simp only [Act.put, List.setIfInBounds_toArray, List.set_cons_zero, List.set_cons_succ])
          refine tks (fun _ d _ _ _ h => by cases d <;> exact h) hHeld [(23, some 40, some false), (24, some 41, some false), (25, some 42, some false)] 27 (by kernel_rfl) rfl ?_
          simp only [lstBy, actBy, vOf, Act.put, List.setIfInBounds_toArray, List.set_cons_zero, List.set_cons_succ]
          refine tky 26 (some 43) (v := ?_) rfl (by kernel_rfl) (by kernel_rfl) (by kernel_rfl) (fun _ _ _ h => h) ?_ hHeld ?_
          rotate_left
          focus (intro w hSw; (try dsimp only at hSw); go_simp; (try with_reducible rfl); done)
          simp only [Act.put, List.setIfInBounds_toArray, List.set_cons_zero, List.set_cons_succ]
          refine tky 27 (some 44) (v := ?_) rfl (by kernel_rfl) (by kernel_rfl) (by kernel_rfl) (fun _ _ _ h => h) ?_ hHeld ?_
          rotate_left
          focus (intro w hSw; (try dsimp only at hSw); go_simp; (try with_reducible rfl); done)
          simp only [Act.put, List.setIfInBounds_toArray, List.set_cons_zero, List.set_cons_succ]
          refine tky 28 (some 45) (v := ?_) rfl (by kernel_rfl) (by kernel_rfl) (by kernel_rfl) (fun _ _ _ h => h) ?_ hHeld ?_
          rotate_left
          focus (intro w hSw; (try dsimp only at hSw); go_simp; (try with_reducible rfl); done)
          simp only [Act.put, List.setIfInBounds_toArray, List.set_cons_zero, List.set_cons_succ]
          refine tky 29 (some 46) (v := ?_) rfl (by kernel_rfl) (by kernel_rfl) (by kernel_rfl) (fun _ _ _ h => h) ?_ hHeld ?_
          rotate_left
          focus (intro w hSw; (try dsimp only at hSw); go_simp; (try with_reducible rfl); done)
          simp only [Act.put, List.setIfInBounds_toArray, List.set_cons_zero, List.set_cons_succ]
          refine tky 30 (some 47) (v := ?_) rfl (by kernel_rfl) (by kernel_rfl) (by kernel_rfl) (fun _ _ _ h => h) ?_ hHeld ?_
          rotate_left
          focus (intro w hSw; (try dsimp only at hSw); go_simp; (try with_reducible rfl); done)
          simp only [Act.put, List.setIfInBounds_toArray, List.set_cons_zero, List.set_cons_succ]
          refine tky 31 (some 48) (v := ?_) rfl (by kernel_rfl) (by kernel_rfl) (by kernel_rfl) (fun _ _ _ h => h) ?_ hHeld ?_
          rotate_left
          focus (intro w hSw; (try dsimp only at hSw); go_simp; (try with_reducible rfl); done)
          simp only [Act.put, List.setIfInBounds_toArray, List.set_cons_zero, List.set_cons_succ]
          refine tky 32 (some 49) (v := ?_) rfl (by kernel_rfl) (by kernel_rfl) (by kernel_rfl) (fun _ _ _ h => h) ?_ hHeld ?_
          rotate_left
          focus (intro w hSw; (try dsimp only at hSw); go_simp; (try with_reducible rfl); done)
          simp only [Act.put, List.setIfInBounds_toArray, List.set_cons_zero, List.set_cons_succ]
          refine tky 33 (some 50) (v := ?_) rfl (by kernel_rfl) (by kernel_rfl) (by kernel_rfl) (fun _ _ _ h => h) ?_ hHeld ?_
          rotate_left
          focus (intro w hSw; (try dsimp only at hSw); go_simp; (try with_reducible rfl); done)
          simp only [Act.put, List.setIfInBounds_toArray, List.set_cons_zero, List.set_cons_succ]
          refine tky 34 (some 51) (v := ?_) rfl (by kernel_rfl) (by kernel_rfl) (by kernel_rfl) (fun _ _ _ h => h) ?_ hHeld ?_
          rotate_left
          focus (intro w hSw; (try dsimp only at hSw); go_simp; (try with_reducible rfl); done)
          simp only [Act.put, List.setIfInBounds_toArray, List.set_cons_zero, List.set_cons_succ]
          refine tky 35 (some 52) (v := ?_) rfl (by kernel_rfl) (by kernel_rfl) (by kernel_rfl) (fun _ _ _ h => h) ?_ hHeld ?_
          rotate_left
          focus (intro w hSw; (try dsimp only at hSw); go_simp; (try with_reducible rfl); done)
          simp only [Act.put, List.setIfInBounds_toArray, List.set_cons_zero, List.set_cons_succ]
          cases t2 with
          | false =>
            refine rcons 36 rfl (by kernel_rfl) (fun K hK => ?_)
            go_simp
            refine (HC2.out _ hHeld.1).mono ?_; rintro e w5 ⟨rfl, hb⟩
            (try dsimp only)
            refine hK.out _ _ (MK.out _ (hHeld.1.trans (hb.mono hHeld.1.size))) (fun hHeld2 => ?_)
            clear hK K hHeld
            have hHeld := hHeld2
            clear hHeld2
            (try simp only [Act.put, List.setIfInBounds_toArray, List.set_cons_zero, List.set_cons_succ])
            refine tks (fun _ d _ _ _ h => by cases d <;> exact h) hHeld [(37, some 54, some true), (38, some 55, some true), (39, some 56, some true), (40, some 57, none), (41, some 58, none), (42, some 59, none), (43, some 60, none), (44, some 61, none), (45, some 62, none), (46, some 63, none), (47, some 64, none), (48, some 65, none), (49, some 66, none), (50, some 67, none), (51, some 68, none), (52, some 69, some true)] 0 (by kernel_rfl) rfl ?_
            simp only [lstBy, actBy, vOf, Act.put, List.setIfInBounds_toArray, List.set_cons_zero, List.set_cons_succ]
            refine wpAnyH_done (by kernel_rfl) ?_ _
            have HF : Hid (false = Z) := Lib.hid (by rw [← HQ2.out]; rfl)
            have HBN : Hid (Below w.heap.size w _) := Lib.hid (HB.out.trans (hHeld.1.mono HB.out.size))
            go_wp2_with fail
            go_ret
            exact ⟨ret_b HF.out, HBN.out⟩
          | true =>
            refine rcons 36 rfl (by kernel_rfl) (fun K hK => ?_)
            go_simp
            refine (HC2.out _ hHeld.1).mono ?_; rintro e w5 ⟨rfl, hb⟩
            (try dsimp only)
            refine hK.out _ _ (MK.out _ (hHeld.1.trans (hb.mono hHeld.1.size))) (fun hHeld2 => ?_)
            clear hK K hHeld
            have hHeld := hHeld2
            clear hHeld2
            (try simp only [Act.put, List.setIfInBounds_toArray, List.set_cons_zero, List.set_cons_succ])
            refine tks (fun _ d _ _ _ h => by cases d <;> exact h) hHeld [(37, some 54, some false), (38, some 55, some false), (39, some 56, some false)] 13 (by kernel_rfl) rfl ?_
            simp only [lstBy, actBy, vOf, Act.put, List.setIfInBounds_toArray, List.set_cons_zero, List.set_cons_succ]
            refine tky 40 (some 57) (v := ?_) rfl (by kernel_rfl) (by kernel_rfl) (by kernel_rfl) (fun _ _ _ h => h) ?_ hHeld ?_
            rotate_left
            focus (intro w hSw; (try dsimp only at hSw); go_simp; (try with_reducible rfl); done)
            simp only [Act.put, List.setIfInBounds_toArray, List.set_cons_zero, List.set_cons_succ]
            refine tky 41 (some 58) (v := ?_) rfl (by kernel_rfl) (by kernel_rfl) (by kernel_rfl) (fun _ _ _ h => h) ?_ hHeld ?_
            rotate_left
            focus (intro w hSw; (try dsimp only at hSw); go_simp; (try with_reducible rfl); done)
            simp only [Act.put, List.setIfInBounds_toArray, List.set_cons_zero, List.set_cons_succ]
            refine tky 42 (some 59) (v := ?_) rfl (by kernel_rfl) (by kernel_rfl) (by kernel_rfl) (fun _ _ _ h => h) ?_ hHeld ?_
            rotate_left
            focus (intro w hSw; (try dsimp only at hSw); go_simp; (try with_reducible rfl); done)
            simp only [Act.put, List.setIfInBounds_toArray, List.set_cons_zero, List.set_cons_succ]
            refine tky 43 (some 60) (v := ?_) rfl (by kernel_rfl) (by kernel_rfl) (by kernel_rfl) (fun _ _ _ h => h) ?_ hHeld ?_
            rotate_left
            focus (intro w hSw; (try dsimp only at hSw); go_simp; (try with_reducible rfl); done)
            simp only [Act.put, List.setIfInBounds_toArray, List.set_cons_zero, List.set_cons_succ]
            refine tky 44 (some 61) (v := ?_) rfl (by kernel_rfl) (by kernel_rfl) (by kernel_rfl) (fun _ _ _ h => h) ?_ hHeld ?_
            rotate_left
            focus (intro w hSw; (try dsimp only at hSw); go_simp; (try with_reducible rfl); done)
            simp only [Act.put, List.setIfInBounds_toArray, List.set_cons_zero, List.set_cons_succ]
            refine tky 45 (some 62) (v := ?_) rfl (by kernel_rfl) (by kernel_rfl) (by kernel_rfl) (fun _ _ _ h => h) ?_ hHeld ?_
            rotate_left
            focus (intro w hSw; (try dsimp only at hSw); go_simp; (try with_reducible rfl); done)
            simp only [Act.put, List.setIfInBounds_toArray, List.set_cons_zero, List.set_cons_succ]
            refine tky 46 (some 63) (v := ?_) rfl (by kernel_rfl) (by kernel_rfl) (by kernel_rfl) (fun _ _ _ h => h) ?_ hHeld ?_
            rotate_left
            focus (intro w hSw; (try dsimp only at hSw); go_simp; (try with_reducible rfl); done)
            simp only [Act.put, List.setIfInBounds_toArray, List.set_cons_zero, List.set_cons_succ]
            refine tky 47 (some 64) (v := ?_) rfl (by kernel_rfl) (by kernel_rfl) (by kernel_rfl) (fun _ _ _ h => h) ?_ hHeld ?_
            rotate_left
            focus (intro w hSw; (try dsimp only at hSw); go_simp; (try with_reducible rfl); done)
            simp only [Act.put, List.setIfInBounds_toArray, List.set_cons_zero, List.set_cons_succ]
            refine tky 48 (some 65) (v := ?_) rfl (by kernel_rfl) (by kernel_rfl) (by kernel_rfl) (fun _ _ _ h => h) ?_ hHeld ?_
            rotate_left
            focus (intro w hSw; (try dsimp only at hSw); go_simp; (try with_reducible rfl); done)
            simp only [Act.put, List.setIfInBounds_toArray, List.set_cons_zero, List.set_cons_succ]
            refine tky 49 (some 66) (v := ?_) rfl (by kernel_rfl) (by kernel_rfl) (by kernel_rfl) (fun _ _ _ h => h) ?_ hHeld ?_
            rotate_left
            focus (intro w hSw; (try dsimp only at hSw); go_simp; (try with_reducible rfl); done)
            simp only [Act.put, List.setIfInBounds_toArray, List.set_cons_zero, List.set_cons_succ]
            cases t3 with
            | false =>
              refine rcons 50 rfl (by kernel_rfl) (fun K hK => ?_)
              go_simp
              refine (HC3.out _ hHeld.1).mono ?_; rintro e w5 ⟨rfl, hb⟩
              (try dsimp only)
              refine hK.out _ _ (MK.out _ (hHeld.1.trans (hb.mono hHeld.1.size))) (fun hHeld2 => ?_)
              clear hK K hHeld
              have hHeld := hHeld2
              clear hHeld2
              (try simp only [Act.put, List.setIfInBounds_toArray, List.set_cons_zero, List.set_cons_succ])
              refine tks (fun _ d _ _ _ h => by cases d <;> exact h) hHeld [(51, some 68, some true), (52, some 69, some true)] 0 (by kernel_rfl) rfl ?_
              simp only [lstBy, actBy, vOf, Act.put, List.setIfInBounds_toArray, List.set_cons_zero, List.set_cons_succ]
              refine wpAnyH_done (by kernel_rfl) ?_ _
              have HF : Hid (false = Z) := Lib.hid (by rw [← HQ2.out]; rfl)
              have HBN : Hid (Below w.heap.size w _) := Lib.hid (HB.out.trans (hHeld.1.mono HB.out.size))
              go_wp2_with fail
              go_ret
              exact ⟨ret_b HF.out, HBN.out⟩
            | true =>
              refine rcons 50 rfl (by kernel_rfl) (fun K hK => ?_)
              go_simp
              refine (HC3.out _ hHeld.1).mono ?_; rintro e w5 ⟨rfl, hb⟩
              (try dsimp only)
              refine hK.out _ _ (MK.out _ (hHeld.1.trans (hb.mono hHeld.1.size))) (fun hHeld2 => ?_)
              clear hK K hHeld
              have hHeld := hHeld2
              clear hHeld2
              (try simp only [Act.put, List.setIfInBounds_toArray, List.set_cons_zero, List.set_cons_succ])
              refine tks (fun _ d _ _ _ h => by cases d <;> exact h) hHeld [(51, some 68, some false), (52, some 69, some false)] 0 (by kernel_rfl) rfl ?_
              simp only [lstBy, actBy, vOf, Act.put, List.setIfInBounds_toArray, List.set_cons_zero, List.set_cons_succ]
              refine wpAnyH_done (by kernel_rfl) ?_ _
              have HF : Hid (eqB (L.drop (i + 1)) (M.drop (i + 1)) = Z) := Lib.hid (by rw [← HQ2.out]; rfl)
              have HBN : Hid (Below w.heap.size w _) := Lib.hid (HB.out.trans (hHeld.1.mono HB.out.size))
              go_wp2_with fail
              obtain ⟨hg1, hg2⟩ := HGG.out
              go_roundg g
              case measure => omega
              case rel => exact ⟨i + 1, rfl, ⟨by omega, by omega⟩, by omega, HF, HBN⟩
    · have hin2 : i = n := by omega
      have HF : Hid (true = Z) := Lib.hid (by
        have h1 := HN.out
        have h2 := HM.out
        rw [← HQ.out, List.drop_of_length_le (by omega), List.drop_of_length_le (by omega)]
        exact (eqB_self _).symm)
      clear HQ
      subst hin2
      clear hin
      go_wp2_with fail
      go_ret
      exact ⟨ret_b HF.out, HB.out⟩
theorem rsf_any (L M : List (Fld)) (u v : Value) (hl : L.length ≤ 100000) (hm : M.length ≤ 100000) (w : World) (h1 : FldSl u L w) (h2 : FldSl v M w) (hs1 : ∀ x ∈ L, FldSm x) (hs2 : ∀ x ∈ M, FldSm x) :
    Calls Tryz.prog 35 #[u, v] w fun e w' => e = .returned (.bool (eqB L M)) ∧ Below w.heap.size w w' := by
  by_cases hlm : L.length = M.length
  · rcases h1 with ⟨a1, c1, rfl, rfl⟩ | ⟨b1, o1, c1, rfl, h1, p1⟩
    · obtain rfl : M = [] := List.eq_nil_of_length_eq_zero hlm.symm
      rw [eqB_self]
      rcases h2 with ⟨a2, c2, rfl, _⟩ | ⟨b2, o2, c2, rfl, h2, p2⟩
      · exact rsf_none a1 a2 c1 c2 w
      · exact rsf_none a1 _ c1 c2 w
    · rcases h2 with ⟨a2, c2, rfl, rfl⟩ | ⟨b2, o2, c2, rfl, h2, p2⟩
      · obtain rfl : L = [] := List.eq_nil_of_length_eq_zero hlm
        rw [eqB_self]
        exact rsf_none _ a2 c1 c2 w
      · rw [← hlm]
        exact rsf_row L M b1 o1 c1 b2 o2 c2 hl hlm w h1 h2 hs1 hs2
  · rw [eqB_len hlm]
    rcases h1 with ⟨a1, c1, rfl, rfl⟩ | ⟨b1, o1, c1, rfl, h1, p1⟩
    · rcases h2 with ⟨a2, c2, rfl, rfl⟩ | ⟨b2, o2, c2, rfl, h2, p2⟩
      · exact absurd rfl hlm
      · exact rsf_len a1 _ _ _ 0 _ (by omega) hm hlm w
    · rcases h2 with ⟨a2, c2, rfl, rfl⟩ | ⟨b2, o2, c2, rfl, h2, p2⟩
      · exact rsf_len _ a2 _ _ _ 0 hl (by omega) hlm w
      · exact rsf_len _ _ _ _ _ _ hl hm hlm w
theorem rsf_eq (L M : List Fld) (u v : Value) (w : World) (h1 : FldSl u L w) (h2 : FldSl v M w) (s1 : FldsSm L) (s2 : FldsSm M) :
    Calls Tryz.prog 35 #[u, v] w fun e w' => e = .returned (.bool (eqB L M)) ∧ Below w.heap.size w w' := rsf_any L M u v s1.1 s2.1 w h1 h2 s1.2 s2.2
set_option maxRecDepth 100000 in
theorem rsm_len (v1 v2 : Option Addr) (c1 c2 : Nat) (n m : Nat) (hn : n ≤ 100000) (hm : m ≤ 100000) (hne : n ≠ m) (w : World) :
    Calls Tryz.prog 8 #[.slice v1 n c1, .slice v2 m c2] w fun e w' => e = .returned (.bool false) ∧ Below w.heap.size w w' := by
  have h1 : ((n : Int) != (m : Int)) = true := by rw [bne_iff_ne]; omega
  clear hne
  go_enter Tryz.func8, Tryz.ntmps8
  go_wp2_with fail
  go_ret
  exact ⟨rfl, Below.refl _ _⟩
set_option maxRecDepth 100000 in
theorem rsm_none (a v : Option Addr) (c1 c2 : Nat) (w : World) :
    Calls Tryz.prog 8 #[.slice a 0 c1, .slice v 0 c2] w fun e w' => e = .returned (.bool true) ∧ Below w.heap.size w w' := by
  go_enter Tryz.func8, Tryz.ntmps8
  go_wp2_with fail
  refine wp_loop_rounds 1 ?_; rw [rounds_succ]
  go_wp2_with fail
  go_ret
  exact ⟨rfl, Below.refl _ _⟩
set_option maxRecDepth 100000 in
set_option maxHeartbeats 8000000 in
theorem rsm_row (L M : List (Dfn)) (b1 o1 c1 b2 o2 c2 : Nat) (hl : L.length ≤ 100000) (hlm : L.length = M.length) (w : World) (h1 : RowG 6 DfnE ⟨b1, o1, none⟩ L w) (h2 : RowG 6 DfnE ⟨b2, o2, none⟩ M w) (hs1 : ∀ x ∈ L, DfnSm x) (hs2 : ∀ x ∈ M, DfnSm x) :
    Calls Tryz.prog 8 #[.slice (some ⟨b1, o1, none⟩) L.length c1, .slice (some ⟨b2, o2, none⟩) L.length c2] w fun e w' => e = .returned (.bool (eqB L M)) ∧ Below w.heap.size w w' := by
  have H1 := Lib.hid h1
  have H2 := Lib.hid h2
  have HS1 := Lib.hid hs1
  have HS2 := Lib.hid hs2
  have HM := Lib.hid hlm
  obtain ⟨Z, hZ⟩ : ∃ Z, eqB L M = Z := ⟨_, rfl⟩
  have HZ0 : Hid (eqB (L.drop 0) (M.drop 0) = Z) := Lib.hid hZ
  rw [hZ]
  obtain ⟨n, hn⟩ : ∃ n, L.length = n := ⟨_, rfl⟩
  have HN := Lib.hid hn
  rw [hn]
  rw [hn] at hl
  clear h1 h2 hs1 hs2 hlm hZ hn
  have hnn : ((n : Int) != (n : Int)) = false := by rw [bne_eq_false_iff_eq]
  go_enter Tryz.func8, Tryz.ntmps8
  go_wp2_with fail
  go_loopg [5] (n + 1) (fun gk iv wr => ∃ i : Nat, iv = .int .i64 (i : Int) ∧ (gk + i ≤ n + 1 ∧ n + 1 ≤ gk + i) ∧ i ≤ n ∧ Hid (eqB (L.drop i) (M.drop i) = Z) ∧ Hid (Below w.heap.size w wr))
  case atStart => exact ⟨0, by go_num, ⟨by omega, by omega⟩, by omega, HZ0, Lib.hid (Below.refl _ _)⟩
  case round =>
    clear HZ0
    rename World => wr
    obtain ⟨i, rfl, ⟨hg1, hg2⟩, hi, HQ, HB⟩ := hrel
    obtain ⟨g, rfl⟩ : ∃ g, gk = g + 1 := ⟨gk - 1, by omega⟩
    have HGG := Lib.hid (And.intro hg1 hg2)
    clear hg1 hg2
    by_cases hin : i < n
    · have hil : i < L.length := by have := HN.out; omega
      have him : i < M.length := by rw [← HM.out]; exact hil
      obtain ⟨y0, y1, y2, y3, y4, y5, y6, y7, y8, y9, y10, y11, yq0, yq1, yq2, yq3, yq4, yq5, yy, yz, yu, yv⟩ := dfn_at (RowG.below H1.out fun _ _ h => DfnE.below h HB.out) i hil
      obtain ⟨z0, z1, z2, z3, z4, z5, z6, z7, z8, z9, z10, z11, zq0, zq1, zq2, zq3, zq4, zq5, zy, zz, zu, zv⟩ := dfn_at (RowG.below H2.out fun _ _ h => DfnE.below h HB.out) i him
      have sm1 := HS1.out L[i] (List.getElem_mem hil)
      have sm2 := HS2.out M[i] (List.getElem_mem him)
      have hq := HQ.out
      rw [eqB_drop _ _ i hil him, eqB_dfn] at hq
      have hz := HB.out.size
      obtain ⟨t0, ht0⟩ : ∃ t : Bool, eqB L[i].kind M[i].kind = t := ⟨_, rfl⟩
      rw [ht0] at hq
      have he0 := (eqB_kind L[i].kind M[i].kind).trans ht0
      obtain ⟨t1, ht1⟩ : ∃ t : Bool, eqB L[i].name M[i].name = t := ⟨_, rfl⟩
      rw [ht1] at hq
      have he1 := (eqB_str L[i].name M[i].name).trans ht1
      obtain ⟨t2, ht2⟩ : ∃ t : Bool, (eqB L[i].dirs M[i].dirs) = t := ⟨_, rfl⟩
      have HC2 : Hid (∀ W, Below wr.heap.size wr W → Calls Tryz.prog 32 #[.slice y0 y1 y2, .slice z0 z1 z2] W fun e w' => e = .returned (.bool t2) ∧ Below W.heap.size W w') := Lib.hid fun W hW => by
        rw [← ht2]
        exact rsd_eq _ _ _ _ W (DirSlc.below yy hW) (DirSlc.below zy hW) sm1.2.1 sm2.2.1
      rw [ht2] at hq
      obtain ⟨t3, ht3⟩ : ∃ t : Bool, (eqB L[i].names M[i].names) = t := ⟨_, rfl⟩
      have HC3 : Hid (∀ W, Below wr.heap.size wr W → Calls Tryz.prog 33 #[.slice y3 y4 y5, .slice z3 z4 z5] W fun e w' => e = .returned (.bool t3) ∧ Below W.heap.size W w') := Lib.hid fun W hW => by
        rw [← ht3]
        exact rnms_any _ _ _ _ sm1.2.2.1.1 sm2.2.2.1.1 W (NmsSl.below yz hW) (NmsSl.below zz hW)
      rw [ht3] at hq
      obtain ⟨t4, ht4⟩ : ∃ t : Bool, (eqB L[i].inputs M[i].inputs) = t := ⟨_, rfl⟩
      have HC4 : Hid (∀ W, Below wr.heap.size wr W → Calls Tryz.prog 34 #[.slice y6 y7 y8, .slice z6 z7 z8] W fun e w' => e = .returned (.bool t4) ∧ Below W.heap.size W w') := Lib.hid fun W hW => by
        rw [← ht4]
        exact rsi_eq _ _ _ _ W (InpSl.below yu hW) (InpSl.below zu hW) sm1.2.2.2.1 sm2.2.2.2.1
      rw [ht4] at hq
      obtain ⟨t5, ht5⟩ : ∃ t : Bool, (eqB L[i].fields M[i].fields) = t := ⟨_, rfl⟩
      have HC5 : Hid (∀ W, Below wr.heap.size wr W → Calls Tryz.prog 35 #[.slice y9 y10 y11, .slice z9 z10 z11] W fun e w' => e = .returned (.bool t5) ∧ Below W.heap.size W w') := Lib.hid fun W hW => by
        rw [← ht5]
        exact rsf_eq _ _ _ _ W (FldSl.below yv hW) (FldSl.below zv hW) sm1.2.2.2.2 sm2.2.2.2.2
      rw [ht5] at hq
      have HQ2 := Lib.hid hq
      clear hq HQ sm1 sm2 ht0 ht1 ht2 ht3 ht4 ht5 yy yz yu yv zy zz zu zv
      generalize (L[i].kind.toNat : Int) = kk at *
      generalize (M[i].kind.toNat : Int) = kkm at *
      generalize (⟨L[i].name.toArray⟩ : ByteArray) = x0 at *
      generalize (⟨M[i].name.toArray⟩ : ByteArray) = x0m at *
      have hi1 : (i : Int).toNat = i := by omega
      have hi2 : (0 : Int) ≤ (i : Int) := by omega
      have hi3 : (i : Int) < (n : Int) := by omega
      have hi4 : IntKind.i64.wrap ((i : Int) + 1) = ((i + 1 : Nat) : Int) := by rw [IntWalk.i64_in _ (by omega)]; omega
      have pb := lt_of_cell yq0
      have qb := lt_of_cell zq0
      go_upto_region 6 with fail
      go_region
      obtain ⟨w2, hw2⟩ : ∃ w2, ((wr.alloc (.cells #[.int .u8 kk, .string x0, .slice y0 y1 y2, .slice y3 y4 y5, .slice y6 y7 y8, .slice y9 y10 y11] 33 (0, 0))).alloc (.cells #[.int .u8 kkm, .string x0m, .slice z0 z1 z2, .slice z3 z4 z5, .slice z6 z7 z8, .slice z9 z10 z11] 33 (0, 0))).drew = w2 := ⟨_, rfl⟩
      have HBA : Hid (Below wr.heap.size wr w2) := Lib.hid (by rw [← hw2]; exact (((Below.refl _ _).alloc (Nat.le_refl _) _).alloc (by simp) _).drew)
      have k1 : w2.heap[wr.heap.size]? = some (.cells #[.int .u8 kk, .string x0, .slice y0 y1 y2, .slice y3 y4 y5, .slice y6 y7 y8, .slice y9 y10 y11] 33 (0, 0)) := by rw [← hw2]; exact heap_old (heap_new _ _ _ rfl)
      have k2 : w2.heap[wr.heap.size + 1]? = some (.cells #[.int .u8 kkm, .string x0m, .slice z0 z1 z2, .slice z3 z4 z5, .slice z6 z7 z8, .slice z9 z10 z11] 33 (0, 0)) := by rw [← hw2]; exact heap_new _ _ _ (by simp)
      try rw [hw2]
      clear hw2
      obtain ⟨p, hp⟩ : ∃ p, wr.heap.size = p := ⟨_, rfl⟩
      obtain ⟨q, hq⟩ : ∃ q, wr.heap.size + 1 = q := ⟨_, rfl⟩
      rw [hp] at k1; rw [hq] at k2
      try rw [hq]
      try rw [hp]
      have MK : Hid (∀ W, Below w2.heap.size w2 W → W.cell? ⟨p, 0, none⟩ = some (.int .u8 kk) ∧ W.cell? ⟨p, 1, none⟩ = some (.string x0) ∧ W.cell? ⟨p, 2, none⟩ = some (.slice y0 y1 y2) ∧ W.cell? ⟨p, 3, none⟩ = some (.slice y3 y4 y5) ∧ W.cell? ⟨p, 4, none⟩ = some (.slice y6 y7 y8) ∧ W.cell? ⟨p, 5, none⟩ = some (.slice y9 y10 y11) ∧ W.cell? ⟨q, 0, none⟩ = some (.int .u8 kkm) ∧ W.cell? ⟨q, 1, none⟩ = some (.string x0m) ∧ W.cell? ⟨q, 2, none⟩ = some (.slice z0 z1 z2) ∧ W.cell? ⟨q, 3, none⟩ = some (.slice z3 z4 z5) ∧ W.cell? ⟨q, 4, none⟩ = some (.slice z6 z7 z8) ∧ W.cell? ⟨q, 5, none⟩ = some (.slice z9 z10 z11)) := Lib.hid fun W hW => ⟨(Lib.cell_of_heap ((hW.block _ (heap_lt k1)).trans k1) 0).trans rfl, (Lib.cell_of_heap ((hW.block _ (heap_lt k1)).trans k1) 1).trans rfl, (Lib.cell_of_heap ((hW.block _ (heap_lt k1)).trans k1) 2).trans rfl, (Lib.cell_of_heap ((hW.block _ (heap_lt k1)).trans k1) 3).trans rfl, (Lib.cell_of_heap ((hW.block _ (heap_lt k1)).trans k1) 4).trans rfl, (Lib.cell_of_heap ((hW.block _ (heap_lt k1)).trans k1) 5).trans rfl, (Lib.cell_of_heap ((hW.block _ (heap_lt k2)).trans k2) 0).trans rfl, (Lib.cell_of_heap ((hW.block _ (heap_lt k2)).trans k2) 1).trans rfl, (Lib.cell_of_heap ((hW.block _ (heap_lt k2)).trans k2) 2).trans rfl, (Lib.cell_of_heap ((hW.block _ (heap_lt k2)).trans k2) 3).trans rfl, (Lib.cell_of_heap ((hW.block _ (heap_lt k2)).trans k2) 4).trans rfl, (Lib.cell_of_heap ((hW.block _ (heap_lt k2)).trans k2) 5).trans rfl⟩
      clear k1 k2 hp hq
      rotate_left
      obtain ⟨w2, hw2⟩ : ∃ w2, ((wr.alloc (.cells #[.int .u8 kkm, .string x0m, .slice z0 z1 z2, .slice z3 z4 z5, .slice z6 z7 z8, .slice z9 z10 z11] 33 (0, 0))).alloc (.cells #[.int .u8 kk, .string x0, .slice y0 y1 y2, .slice y3 y4 y5, .slice y6 y7 y8, .slice y9 y10 y11] 33 (0, 0))).drew = w2 := ⟨_, rfl⟩
      have HBA : Hid (Below wr.heap.size wr w2) := Lib.hid (by rw [← hw2]; exact (((Below.refl _ _).alloc (Nat.le_refl _) _).alloc (by simp) _).drew)
      have k1 : w2.heap[wr.heap.size]? = some (.cells #[.int .u8 kkm, .string x0m, .slice z0 z1 z2, .slice z3 z4 z5, .slice z6 z7 z8, .slice z9 z10 z11] 33 (0, 0)) := by rw [← hw2]; exact heap_old (heap_new _ _ _ rfl)
      have k2 : w2.heap[wr.heap.size + 1]? = some (.cells #[.int .u8 kk, .string x0, .slice y0 y1 y2, .slice y3 y4 y5, .slice y6 y7 y8, .slice y9 y10 y11] 33 (0, 0)) := by rw [← hw2]; exact heap_new _ _ _ (by simp)
      try rw [hw2]
      clear hw2
      obtain ⟨p, hp⟩ : ∃ p, wr.heap.size + 1 = p := ⟨_, rfl⟩
      obtain ⟨q, hq⟩ : ∃ q, wr.heap.size = q := ⟨_, rfl⟩
      rw [hq] at k1; rw [hp] at k2
      try rw [hp]
      try rw [hq]
      have MK : Hid (∀ W, Below w2.heap.size w2 W → W.cell? ⟨p, 0, none⟩ = some (.int .u8 kk) ∧ W.cell? ⟨p, 1, none⟩ = some (.string x0) ∧ W.cell? ⟨p, 2, none⟩ = some (.slice y0 y1 y2) ∧ W.cell? ⟨p, 3, none⟩ = some (.slice y3 y4 y5) ∧ W.cell? ⟨p, 4, none⟩ = some (.slice y6 y7 y8) ∧ W.cell? ⟨p, 5, none⟩ = some (.slice y9 y10 y11) ∧ W.cell? ⟨q, 0, none⟩ = some (.int .u8 kkm) ∧ W.cell? ⟨q, 1, none⟩ = some (.string x0m) ∧ W.cell? ⟨q, 2, none⟩ = some (.slice z0 z1 z2) ∧ W.cell? ⟨q, 3, none⟩ = some (.slice z3 z4 z5) ∧ W.cell? ⟨q, 4, none⟩ = some (.slice z6 z7 z8) ∧ W.cell? ⟨q, 5, none⟩ = some (.slice z9 z10 z11)) := Lib.hid fun W hW => ⟨(Lib.cell_of_heap ((hW.block _ (heap_lt k2)).trans k2) 0).trans rfl, (Lib.cell_of_heap ((hW.block _ (heap_lt k2)).trans k2) 1).trans rfl, (Lib.cell_of_heap ((hW.block _ (heap_lt k2)).trans k2) 2).trans rfl, (Lib.cell_of_heap ((hW.block _ (heap_lt k2)).trans k2) 3).trans rfl, (Lib.cell_of_heap ((hW.block _ (heap_lt k2)).trans k2) 4).trans rfl, (Lib.cell_of_heap ((hW.block _ (heap_lt k2)).trans k2) 5).trans rfl, (Lib.cell_of_heap ((hW.block _ (heap_lt k1)).trans k1) 0).trans rfl, (Lib.cell_of_heap ((hW.block _ (heap_lt k1)).trans k1) 1).trans rfl, (Lib.cell_of_heap ((hW.block _ (heap_lt k1)).trans k1) 2).trans rfl, (Lib.cell_of_heap ((hW.block _ (heap_lt k1)).trans k1) 3).trans rfl, (Lib.cell_of_heap ((hW.block _ (heap_lt k1)).trans k1) 4).trans rfl, (Lib.cell_of_heap ((hW.block _ (heap_lt k1)).trans k1) 5).trans rfl⟩
      clear k1 k2 hp hq
      rotate_left
      all_goals
        clear yq0 yq1 yq2 yq3 yq4 yq5 zq0 zq1 zq2 zq3 zq4 zq5 pb qb
        obtain ⟨d0, d1, d2, d3, d4, d5, d6, d7, d8, d9, d10, d11⟩ := MK.out w2 (Below.refl _ _)
        have HBV : Hid (Below w2.heap.size w2 w2) := Lib.hid (Below.refl _ _)
        cases t0 with
        | false =>
          have hf0 : (kk != kkm) = true := by rw [bne, he0]; rfl
          have hg0 : ¬ kk = kkm := beq_eq_false_iff_ne.1 he0
          have HF : Hid (false = Z) := Lib.hid (by rw [← HQ2.out]; rfl)
          have HBN : Hid (Below w.heap.size w _) := Lib.hid (HB.out.trans ((HBA.out.trans (HBV.out.mono HBA.out.size)).mono hz))
          go_wp2_with fail
          go_ret
          exact ⟨ret_b HF.out, HBN.out⟩
        | true =>
          have hf0 : (kk != kkm) = false := by rw [bne, he0]; rfl
          have hg0 : kk = kkm := beq_iff_eq.1 he0
          cases t1 with
          | false =>
            have hf1 : (x0.toList != x0m.toList) = true := by rw [bne, he1]; rfl
            have hg1 : ¬ x0.toList = x0m.toList := beq_eq_false_iff_ne.1 he1
            have HF : Hid (false = Z) := Lib.hid (by rw [← HQ2.out]; rfl)
            have HBN : Hid (Below w.heap.size w _) := Lib.hid (HB.out.trans ((HBA.out.trans (HBV.out.mono HBA.out.size)).mono hz))
            go_wp2_with fail
            go_ret
            exact ⟨ret_b HF.out, HBN.out⟩
          | true =>
            have hf1 : (x0.toList != x0m.toList) = false := by rw [bne, he1]; rfl
            have hg1 : x0.toList = x0m.toList := beq_iff_eq.1 he1
            cases t2 with
            | false =>
              go_wp2_with fail
              refine (HC2.out _ (HBA.out.trans (HBV.out.mono HBA.out.size))).mono ?_; rintro e w5 ⟨rfl, hb⟩
              have HBV2 : Hid (Below w2.heap.size w2 w5) := Lib.hid (HBV.out.trans (hb.mono HBV.out.size))
              clear HBV hb
              have HBV := HBV2
              clear HBV2
              have HF : Hid (false = Z) := Lib.hid (by rw [← HQ2.out]; rfl)
              have HBN : Hid (Below w.heap.size w _) := Lib.hid (HB.out.trans ((HBA.out.trans (HBV.out.mono HBA.out.size)).mono hz))
              go_wp2_with fail
              go_ret
              exact ⟨ret_b HF.out, HBN.out⟩
            | true =>
              go_wp2_with fail
              refine (HC2.out _ (HBA.out.trans (HBV.out.mono HBA.out.size))).mono ?_; rintro e w5 ⟨rfl, hb⟩
              have HBV2 : Hid (Below w2.heap.size w2 w5) := Lib.hid (HBV.out.trans (hb.mono HBV.out.size))
              obtain ⟨d0, d1, d2, d3, d4, d5, d6, d7, d8, d9, d10, d11⟩ := MK.out w5 HBV2.out
              clear HBV hb
              have HBV := HBV2
              clear HBV2
              cases t3 with
              | false =>
                go_wp2_with fail
                refine (HC3.out _ (HBA.out.trans (HBV.out.mono HBA.out.size))).mono ?_; rintro e w5 ⟨rfl, hb⟩
                have HBV2 : Hid (Below w2.heap.size w2 w5) := Lib.hid (HBV.out.trans (hb.mono HBV.out.size))
                clear HBV hb
                have HBV := HBV2
                clear HBV2
                have HF : Hid (false = Z) := Lib.hid (by rw [← HQ2.out]; rfl)
                have HBN : Hid (Below w.heap.size w _) := Lib.hid (HB.out.trans ((HBA.out.trans (HBV.out.mono HBA.out.size)).mono hz))
                go_wp2_with fail
                go_ret
                exact ⟨ret_b HF.out, HBN.out⟩
              | true =>
                go_wp2_with fail
                refine (HC3.out _ (HBA.out.trans (HBV.out.mono HBA.out.size))).mono ?_; rintro e w5 ⟨rfl, hb⟩
                have HBV2 : Hid (Below w2.heap.size w2 w5) := Lib.hid (HBV.out.trans (hb.mono HBV.out.size))
                obtain ⟨d0, d1, d2, d3, d4, d5, d6, d7, d8, d9, d10, d11⟩ := MK.out w5 HBV2.out
                clear HBV hb
                have HBV := HBV2
                clear HBV2
                cases t4 with
                | false =>
                  go_wp2_with fail
                  refine (HC4.out _ (HBA.out.trans (HBV.out.mono HBA.out.size))).mono ?_; rintro e w5 ⟨rfl, hb⟩
                  have HBV2 : Hid (Below w2.heap.size w2 w5) := Lib.hid (HBV.out.trans (hb.mono HBV.out.size))
                  clear HBV hb
                  have HBV := HBV2
                  clear HBV2
                  have HF : Hid (false = Z) := Lib.hid (by rw [← HQ2.out]; rfl)
                  have HBN : Hid (Below w.heap.size w _) := Lib.hid (HB.out.trans ((HBA.out.trans (HBV.out.mono HBA.out.size)).mono hz))
                  go_wp2_with fail
                  go_ret
                  exact ⟨ret_b HF.out, HBN.out⟩
                | true =>
                  go_wp2_with fail
                  refine (HC4.out _ (HBA.out.trans (HBV.out.mono HBA.out.size))).mono ?_; rintro e w5 ⟨rfl, hb⟩
                  have HBV2 : Hid (Below w2.heap.size w2 w5) := Lib.hid (HBV.out.trans (hb.mono HBV.out.size))
                  obtain ⟨d0, d1, d2, d3, d4, d5, d6, d7, d8, d9, d10, d11⟩ := MK.out w5 HBV2.out
                  clear HBV hb
                  have HBV := HBV2
                  clear HBV2
                  cases t5 with
                  | false =>
                    go_wp2_with fail
                    refine (HC5.out _ (HBA.out.trans (HBV.out.mono HBA.out.size))).mono ?_; rintro e w5 ⟨rfl, hb⟩
                    have HBV2 : Hid (Below w2.heap.size w2 w5) := Lib.hid (HBV.out.trans (hb.mono HBV.out.size))
                    clear HBV hb
                    have HBV := HBV2
                    clear HBV2
                    have HF : Hid (false = Z) := Lib.hid (by rw [← HQ2.out]; rfl)
                    have HBN : Hid (Below w.heap.size w _) := Lib.hid (HB.out.trans ((HBA.out.trans (HBV.out.mono HBA.out.size)).mono hz))
                    go_wp2_with fail
                    go_ret
                    exact ⟨ret_b HF.out, HBN.out⟩
                  | true =>
                    go_wp2_with fail
                    refine (HC5.out _ (HBA.out.trans (HBV.out.mono HBA.out.size))).mono ?_; rintro e w5 ⟨rfl, hb⟩
                    have HBV2 : Hid (Below w2.heap.size w2 w5) := Lib.hid (HBV.out.trans (hb.mono HBV.out.size))
                    clear HBV hb
                    have HBV := HBV2
                    clear HBV2
                    have HF : Hid (eqB (L.drop (i + 1)) (M.drop (i + 1)) = Z) := Lib.hid (by rw [← HQ2.out]; rfl)
                    have HBN : Hid (Below w.heap.size w _) := Lib.hid (HB.out.trans ((HBA.out.trans (HBV.out.mono HBA.out.size)).mono hz))
                    go_wp2_with fail
                    obtain ⟨hg1, hg2⟩ := HGG.out
                    go_roundg g
                    case measure => omega
                    case rel => exact ⟨i + 1, rfl, ⟨by omega, by omega⟩, by omega, HF, HBN⟩
    · have hin2 : i = n := by omega
      have HF : Hid (true = Z) := Lib.hid (by
        have h1 := HN.out
        have h2 := HM.out
        rw [← HQ.out, List.drop_of_length_le (by omega), List.drop_of_length_le (by omega)]
        exact (eqB_self _).symm)
      clear HQ
      subst hin2
      clear hin
      go_wp2_with fail
      go_ret
      exact ⟨ret_b HF.out, HB.out⟩
theorem rsm_any (L M : List (Dfn)) (u v : Value) (hl : L.length ≤ 100000) (hm : M.length ≤ 100000) (w : World) (h1 : DfnSl u L w) (h2 : DfnSl v M w) (hs1 : ∀ x ∈ L, DfnSm x) (hs2 : ∀ x ∈ M, DfnSm x) :
    Calls Tryz.prog 8 #[u, v] w fun e w' => e = .returned (.bool (eqB L M)) ∧ Below w.heap.size w w' := by
  by_cases hlm : L.length = M.length
  · rcases h1 with ⟨a1, c1, rfl, rfl⟩ | ⟨b1, o1, c1, rfl, h1, p1⟩
    · obtain rfl : M = [] := List.eq_nil_of_length_eq_zero hlm.symm
      rw [eqB_self]
      rcases h2 with ⟨a2, c2, rfl, _⟩ | ⟨b2, o2, c2, rfl, h2, p2⟩
      · exact rsm_none a1 a2 c1 c2 w
      · exact rsm_none a1 _ c1 c2 w
    · rcases h2 with ⟨a2, c2, rfl, rfl⟩ | ⟨b2, o2, c2, rfl, h2, p2⟩
      · obtain rfl : L = [] := List.eq_nil_of_length_eq_zero hlm
        rw [eqB_self]
        exact rsm_none _ a2 c1 c2 w
      · rw [← hlm]
        exact rsm_row L M b1 o1 c1 b2 o2 c2 hl hlm w h1 h2 hs1 hs2
  · rw [eqB_len hlm]
    rcases h1 with ⟨a1, c1, rfl, rfl⟩ | ⟨b1, o1, c1, rfl, h1, p1⟩
    · rcases h2 with ⟨a2, c2, rfl, rfl⟩ | ⟨b2, o2, c2, rfl, h2, p2⟩
      · exact absurd rfl hlm
      · exact rsm_len a1 _ _ _ 0 _ (by omega) hm hlm w
    · rcases h2 with ⟨a2, c2, rfl, rfl⟩ | ⟨b2, o2, c2, rfl, h2, p2⟩
      · exact rsm_len _ a2 _ _ _ 0 hl (by omega) hlm w
      · exact rsm_len _ _ _ _ _ _ hl hm hlm w
end Go.Proofs.YtgacpmdebjndkaaGreatDoor
