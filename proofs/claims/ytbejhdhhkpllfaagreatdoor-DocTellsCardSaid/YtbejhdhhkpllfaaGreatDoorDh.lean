/- The reference's SameArgs, SameDirs. -/
import Derived.Test.YtbejhdhhkpllfaaGreatDoorDg
import Derived.Test.YtbejhdhhkpllfaaGreatDoorDt
import Derived.BigRegion
set_option linter.unusedSimpArgs false
set_option linter.unusedVariables false
namespace Go.Proofs.YtbejhdhhkpllfaaGreatDoor
open Go.RowKit
def ArgSm (x : ArgD) : Prop := x.1.length ≤ 1000000 ∧ SmallV x.2
def DirSm (x : DirD) : Prop := x.1.length ≤ 1000000 ∧ ArgsSm x.2
def InpSm (x : Inp) : Prop := x.name.length ≤ 9223372036854775807 ∧ x.tnm.length ≤ 9223372036854775807 ∧ x.wr.length ≤ 100000 ∧ SmallV x.dflt ∧ DirsSm x.dirs
def InpsSm (L : List Inp) : Prop := L.length ≤ 100000 ∧ ∀ x ∈ L, InpSm x
def FldSm (x : Fld) : Prop := x.name.length ≤ 9223372036854775807 ∧ x.tnm.length ≤ 9223372036854775807 ∧ x.wr.length ≤ 100000 ∧ InpsSm x.args ∧ DirsSm x.dirs
def FldsSm (L : List Fld) : Prop := L.length ≤ 100000 ∧ ∀ x ∈ L, FldSm x
def NmsSm (L : List (List UInt8)) : Prop := L.length ≤ 100000 ∧ ∀ x ∈ L, x.length ≤ 1000000
def DfnSm (x : Dfn) : Prop := x.name.length ≤ 1000000 ∧ DirsSm x.dirs ∧ NmsSm x.names ∧ InpsSm x.inputs ∧ FldsSm x.fields
def DfnsSm (L : List Dfn) : Prop := L.length ≤ 100000 ∧ ∀ x ∈ L, DfnSm x
set_option maxRecDepth 100000 in
theorem rsa_len (v1 v2 : Option Addr) (c1 c2 : Nat) (n m : Nat) (hn : n ≤ 100000) (hm : m ≤ 100000) (hne : n ≠ m) (w : World) :
    Calls Tryz.prog 54 #[.slice v1 n c1, .slice v2 m c2] w fun e w' => e = .returned (.bool false) ∧ Below w.heap.size w w' := by
  have h1 : ((n : Int) != (m : Int)) = true := by rw [bne_iff_ne]; omega
  clear hne
  go_enter Tryz.func54, Tryz.ntmps54
  go_wp2_with fail
  go_ret
  exact ⟨rfl, Below.refl _ _⟩
set_option maxRecDepth 100000 in
theorem rsa_none (a v : Option Addr) (c1 c2 : Nat) (w : World) :
    Calls Tryz.prog 54 #[.slice a 0 c1, .slice v 0 c2] w fun e w' => e = .returned (.bool true) ∧ Below w.heap.size w w' := by
  go_enter Tryz.func54, Tryz.ntmps54
  go_wp2_with fail
  refine wp_loop_rounds 1 ?_; rw [rounds_succ]
  go_wp2_with fail
  go_ret
  exact ⟨rfl, Below.refl _ _⟩
set_option maxRecDepth 100000 in
set_option maxHeartbeats 8000000 in
theorem rsa_row (L M : List (ArgD)) (b1 o1 c1 b2 o2 c2 : Nat) (hl : L.length ≤ 100000) (hlm : L.length = M.length) (w : World) (h1 : XRow CelSl b1 o1 L w) (h2 : XRow CelSl b2 o2 M w) (hs1 : ∀ x ∈ L, ArgSm x) (hs2 : ∀ x ∈ M, ArgSm x) :
    Calls Tryz.prog 54 #[.slice (some ⟨b1, o1, none⟩) L.length c1, .slice (some ⟨b2, o2, none⟩) L.length c2] w fun e w' => e = .returned (.bool (eqB L M)) ∧ Below w.heap.size w w' := by
  have H1 := Lib.hid h1
  have H2 := Lib.hid h2
  have HS1 := Lib.hid hs1
  have HS2 := Lib.hid hs2
  have HM := Lib.hid hlm
  obtain ⟨Z, hZ⟩ : ∃ Z, eqB L M = Z := ⟨_, rfl⟩
  have HZ0 : Hid (eqB (L.drop 0) (M.drop 0) = Z) := Lib.hid hZ
  rw [hZ]
  obtain ⟨n, hn⟩ : ∃ n, L.length = n := ⟨_, rfl⟩
  have HN := Lib.hid hn
  rw [hn]
  rw [hn] at hl
  clear h1 h2 hs1 hs2 hlm hZ hn
  have hnn : ((n : Int) != (n : Int)) = false := by rw [bne_eq_false_iff_eq]
  go_enter Tryz.func54, Tryz.ntmps54
  go_wp2_with fail
  go_loopg [5] (n + 1) (fun gk iv wr => ∃ i : Nat, iv = .int .i64 (i : Int) ∧ (gk + i ≤ n + 1 ∧ n + 1 ≤ gk + i) ∧ i ≤ n ∧ Hid (eqB (L.drop i) (M.drop i) = Z) ∧ Hid (Below w.heap.size w wr))
  case atStart => exact ⟨0, by go_num, ⟨by omega, by omega⟩, by omega, HZ0, Lib.hid (Below.refl _ _)⟩
  case round =>
    clear HZ0
    rename World => wr
    obtain ⟨i, rfl, ⟨hg1, hg2⟩, hi, HQ, HB⟩ := hrel
    obtain ⟨g, rfl⟩ : ∃ g, gk = g + 1 := ⟨gk - 1, by omega⟩
    have HGG := Lib.hid (And.intro hg1 hg2)
    clear hg1 hg2
    by_cases hin : i < n
    · have hil : i < L.length := by have := HN.out; omega
      have him : i < M.length := by rw [← HM.out]; exact hil
      obtain ⟨yq0, ya, yn, yc, yq1, yy⟩ := (XRow.below H1.out (fun _ _ h => CelSl.below h HB.out) HB.out) i hil
      obtain ⟨zq0, za, zn, zc, zq1, zy⟩ := (XRow.below H2.out (fun _ _ h => CelSl.below h HB.out) HB.out) i him
      have sm1 := HS1.out L[i] (List.getElem_mem hil)
      have sm2 := HS2.out M[i] (List.getElem_mem him)
      have hq := HQ.out
      rw [eqB_drop _ _ i hil him, eqB_pair] at hq
      have hz := HB.out.size
      obtain ⟨t0, ht0⟩ : ∃ t : Bool, eqB L[i].1 M[i].1 = t := ⟨_, rfl⟩
      rw [ht0] at hq
      have he0 := (eqB_str L[i].1 M[i].1).trans ht0
      obtain ⟨t1, ht1⟩ : ∃ t : Bool, (eqB L[i].2 M[i].2) = t := ⟨_, rfl⟩
      have HC1 : Hid (∀ W, Below wr.heap.size wr W → Calls Tryz.prog 52 #[.slice ya yn yc, .slice za zn zc] W fun e w' => e = .returned (.bool t1) ∧ Below W.heap.size W w') := Lib.hid fun W hW => by
        rw [← ht1]
        exact rsame03_eq _ _ _ _ sm1.2.1 sm2.2.1 W (CelSl.below yy hW) (CelSl.below zy hW)
      rw [ht1] at hq
      have HQ2 := Lib.hid hq
      clear hq HQ sm1 sm2 ht0 ht1 yy zy
      generalize (⟨L[i].1.toArray⟩ : ByteArray) = x0 at *
      generalize (⟨M[i].1.toArray⟩ : ByteArray) = x0m at *
      have hi1 : (i : Int).toNat = i := by omega
      have hi2 : (0 : Int) ≤ (i : Int) := by omega
      have hi3 : (i : Int) < (n : Int) := by omega
      have hi4 : IntKind.i64.wrap ((i : Int) + 1) = ((i + 1 : Nat) : Int) := by rw [IntWalk.i64_in _ (by omega)]; omega
      have MK : Hid (∀ W, Below wr.heap.size wr W → (fun W => Below wr.heap.size wr W ∧ W.cell? ⟨b1, o1 + i * 2, none⟩ = some (.string x0) ∧ W.cell? ⟨b1, o1 + i * 2 + 1, none⟩ = some (.slice ya yn yc) ∧ W.cell? ⟨b2, o2 + i * 2, none⟩ = some (.string x0m) ∧ W.cell? ⟨b2, o2 + i * 2 + 1, none⟩ = some (.slice za zn zc)) W) := Lib.hid fun W hW => ⟨hW, (hW.cell (p := ⟨_, _, none⟩) (lt_of_cell yq0)).trans yq0, (hW.cell (p := ⟨_, _, none⟩) (lt_of_cell yq1)).trans yq1, (hW.cell (p := ⟨_, _, none⟩) (lt_of_cell zq0)).trans zq0, (hW.cell (p := ⟨_, _, none⟩) (lt_of_cell zq1)).trans zq1⟩
      have pb := lt_of_cell yq0
      have qb := lt_of_cell zq0
      go_wp2_with fail
      refine wp_region_held_drew (S := fun W => Below wr.heap.size wr W ∧ W.cell? ⟨b1, o1 + i * 2, none⟩ = some (.string x0) ∧ W.cell? ⟨b1, o1 + i * 2 + 1, none⟩ = some (.slice ya yn yc) ∧ W.cell? ⟨b2, o2 + i * 2, none⟩ = some (.string x0m) ∧ W.cell? ⟨b2, o2 + i * 2 + 1, none⟩ = some (.slice za zn zc)) (by kernel_rfl) (MK.out _ ⟨rfl, rfl, rfl, Nat.le_refl _, fun _ _ => rfl⟩) (fun hHeld => ?_)
      refine tky 0 (some 17) (v := ?_) rfl (by kernel_rfl) (by kernel_rfl) (by kernel_rfl) (fun _ _ _ h => h) ?_ hHeld ?_
      rotate_left
      focus (intro w hSw; (try dsimp only at hSw); go_simp; (try with_reducible rfl); done)
      simp only [Act.put, List.setIfInBounds_toArray, List.set_cons_zero, List.set_cons_succ]
      refine tky 1 (some 18) (v := ?_) rfl (by kernel_rfl) (by kernel_rfl) (by kernel_rfl) (fun _ _ _ h => h) ?_ hHeld ?_
      rotate_left
      focus (intro w hSw; (try dsimp only at hSw); go_simp; (try with_reducible rfl); done)
      simp only [Act.put, List.setIfInBounds_toArray, List.set_cons_zero, List.set_cons_succ]
      refine tky 2 (some 19) (v := ?_) rfl (by kernel_rfl) (by kernel_rfl) (by kernel_rfl) (fun _ _ _ h => h) ?_ hHeld ?_
      rotate_left
      focus (intro w hSw; (try dsimp only at hSw); go_simp; (try with_reducible rfl); done)
      simp only [Act.put, List.setIfInBounds_toArray, List.set_cons_zero, List.set_cons_succ]
      refine tky 3 (some 20) (v := ?_) rfl (by kernel_rfl) (by kernel_rfl) (by kernel_rfl) (fun _ _ _ h => h) ?_ hHeld ?_
      rotate_left
      focus (intro w hSw; (try dsimp only at hSw); go_simp; (try with_reducible rfl); done)
      simp only [Act.put, List.setIfInBounds_toArray, List.set_cons_zero, List.set_cons_succ]
      refine tky 4 (some 21) (v := ?_) rfl (by kernel_rfl) (by kernel_rfl) (by kernel_rfl) (fun _ _ _ h => h) ?_ hHeld ?_
      rotate_left
      focus (intro w hSw; (try dsimp only at hSw); go_simp; (try with_reducible rfl); done)
      simp only [Act.put, List.setIfInBounds_toArray, List.set_cons_zero, List.set_cons_succ]
      refine tky 5 (some 22) (v := ?_) rfl (by kernel_rfl) (by kernel_rfl) (by kernel_rfl) (fun _ _ _ h => h) ?_ hHeld ?_
      rotate_left
      focus (intro w hSw; (try dsimp only at hSw); go_simp; (try with_reducible rfl); done)
      simp only [Act.put, List.setIfInBounds_toArray, List.set_cons_zero, List.set_cons_succ]
      refine tky 6 (some 23) (v := ?_) rfl (by kernel_rfl) (by kernel_rfl) (by kernel_rfl) (fun _ _ _ h => h) ?_ hHeld ?_
      rotate_left
      focus (intro w hSw; (try dsimp only at hSw); go_simp; (try with_reducible rfl); done)
      simp only [Act.put, List.setIfInBounds_toArray, List.set_cons_zero, List.set_cons_succ]
      refine tky 7 (some 24) (v := ?_) rfl (by kernel_rfl) (by kernel_rfl) (by kernel_rfl) (fun _ _ _ h => h) ?_ hHeld ?_
      rotate_left
      focus (intro w hSw; (try dsimp only at hSw); go_simp; (try with_reducible rfl); done)
      simp only [Act.put, List.setIfInBounds_toArray, List.set_cons_zero, List.set_cons_succ]
      refine tky 8 (some 25) (v := ?_) rfl (by kernel_rfl) (by kernel_rfl) (by kernel_rfl) (fun _ _ _ h => h) ?_ hHeld ?_
      rotate_left
      focus (intro w hSw; (try dsimp only at hSw); go_simp; (try with_reducible rfl); done)
      simp only [Act.put, List.setIfInBounds_toArray, List.set_cons_zero, List.set_cons_succ]
      refine tky 9 (some 26) (v := ?_) rfl (by kernel_rfl) (by kernel_rfl) (by kernel_rfl) (fun _ _ _ h => h) ?_ hHeld ?_
      rotate_left
      focus (intro w hSw; (try dsimp only at hSw); go_simp; (try with_reducible rfl); done)
      simp only [Act.put, List.setIfInBounds_toArray, List.set_cons_zero, List.set_cons_succ]
      cases t0 with
      | false =>
        refine tky 10 (some 27) (v := ?_) rfl (by kernel_rfl) (by kernel_rfl) (by kernel_rfl) (fun _ _ _ h => h) ?_ hHeld ?_
        rotate_left
        focus (intro w hSw; (try dsimp only at hSw); go_simp; (try with_reducible rfl); done)
        simp only [Act.put, List.setIfInBounds_toArray, List.set_cons_zero, List.set_cons_succ]
        refine tks (fun _ d _ _ _ h => by cases d <;> exact h) hHeld [(11, some 28, some true), (12, some 29, none), (13, some 30, none), (14, some 31, none), (15, some 32, none), (16, some 33, none), (17, some 34, none), (18, some 35, none), (19, some 36, none), (20, some 37, none), (21, some 38, none), (22, some 39, none), (23, some 40, none), (24, some 41, some true)] 0 (by kernel_rfl) rfl ?_
        simp only [lstBy, actBy, vOf, Act.put, List.setIfInBounds_toArray, List.set_cons_zero, List.set_cons_succ]
        refine wpAnyH_done (by kernel_rfl) ?_ _
        have HF : Hid (false = Z) := Lib.hid (by rw [← HQ2.out]; rfl)
        have HBN : Hid (Below w.heap.size w _) := Lib.hid (HB.out.trans (hHeld.1.mono HB.out.size))
        go_wp2_with fail
        go_ret
        exact ⟨ret_b HF.out, HBN.out⟩
      | true =>
        refine tky 10 (some 27) (v := ?_) rfl (by kernel_rfl) (by kernel_rfl) (by kernel_rfl) (fun _ _ _ h => h) ?_ hHeld ?_
        rotate_left
        focus (intro w hSw; (try dsimp only at hSw); go_simp; (try with_reducible rfl); done)
        simp only [Act.put, List.setIfInBounds_toArray, List.set_cons_zero, List.set_cons_succ]
        refine tks (fun _ d _ _ _ h => by cases d <;> exact h) hHeld [(11, some 28, some false)] 13 (by kernel_rfl) rfl ?_
        simp only [lstBy, actBy, vOf, Act.put, List.setIfInBounds_toArray, List.set_cons_zero, List.set_cons_succ]
        refine tky 12 (some 29) (v := ?_) rfl (by kernel_rfl) (by kernel_rfl) (by kernel_rfl) (fun _ _ _ h => h) ?_ hHeld ?_
        rotate_left
        focus (intro w hSw; (try dsimp only at hSw); go_simp; (try with_reducible rfl); done)
        simp only [Act.put, List.setIfInBounds_toArray, List.set_cons_zero, List.set_cons_succ]
        refine tky 13 (some 30) (v := ?_) rfl (by kernel_rfl) (by kernel_rfl) (by kernel_rfl) (fun _ _ _ h => h) ?_ hHeld ?_
        rotate_left
        focus (intro w hSw; (try dsimp only at hSw); go_simp; (try with_reducible rfl); done)
        simp only [Act.put, List.setIfInBounds_toArray, List.set_cons_zero, List.set_cons_succ]
        refine tky 14 (some 31) (v := ?_) rfl (by kernel_rfl) (by kernel_rfl) (by kernel_rfl) (fun _ _ _ h => h) ?_ hHeld ?_
        rotate_left
        focus (intro w hSw; (try dsimp only at hSw); go_simp; (try with_reducible rfl); done)
        simp only [Act.put, List.setIfInBounds_toArray, List.set_cons_zero, List.set_cons_succ]
        refine tky 15 (some 32) (v := ?_) rfl (by kernel_rfl) (by kernel_rfl) (by kernel_rfl) (fun _ _ _ h => h) ?_ hHeld ?_
        rotate_left
        focus (intro w hSw; (try dsimp only at hSw); go_simp; (try with_reducible rfl); done)
        simp only [Act.put, List.setIfInBounds_toArray, List.set_cons_zero, List.set_cons_succ]
        refine tky 16 (some 33) (v := ?_) rfl (by kernel_rfl) (by kernel_rfl) (by kernel_rfl) (fun _ _ _ h => h) ?_ hHeld ?_
        rotate_left
        focus (intro w hSw; (try dsimp only at hSw); go_simp; (try with_reducible rfl); done)
        simp only [Act.put, List.setIfInBounds_toArray, List.set_cons_zero, List.set_cons_succ]
        refine tky 17 (some 34) (v := ?_) rfl (by kernel_rfl) (by kernel_rfl) (by kernel_rfl) (fun _ _ _ h => h) ?_ hHeld ?_
        rotate_left
        focus (intro w hSw; (try dsimp only at hSw); go_simp; (try with_reducible rfl); done)
        simp only [Act.put, List.setIfInBounds_toArray, List.set_cons_zero, List.set_cons_succ]
        refine tky 18 (some 35) (v := ?_) rfl (by kernel_rfl) (by kernel_rfl) (by kernel_rfl) (fun _ _ _ h => h) ?_ hHeld ?_
        rotate_left
        focus (intro w hSw; (try dsimp only at hSw); go_simp; (try with_reducible rfl); done)
        simp only [Act.put, List.setIfInBounds_toArray, List.set_cons_zero, List.set_cons_succ]
        refine tky 19 (some 36) (v := ?_) rfl (by kernel_rfl) (by kernel_rfl) (by kernel_rfl) (fun _ _ _ h => h) ?_ hHeld ?_
        rotate_left
        focus (intro w hSw; (try dsimp only at hSw); go_simp; (try with_reducible rfl); done)
        simp only [Act.put, List.setIfInBounds_toArray, List.set_cons_zero, List.set_cons_succ]
        refine tky 20 (some 37) (v := ?_) rfl (by kernel_rfl) (by kernel_rfl) (by kernel_rfl) (fun _ _ _ h => h) ?_ hHeld ?_
        rotate_left
        focus (intro w hSw; (try dsimp only at hSw); go_simp; (try with_reducible rfl); done)
        simp only [Act.put, List.setIfInBounds_toArray, List.set_cons_zero, List.set_cons_succ]
        refine tky 21 (some 38) (v := ?_) rfl (by kernel_rfl) (by kernel_rfl) (by kernel_rfl) (fun _ _ _ h => h) ?_ hHeld ?_
        rotate_left
        focus (intro w hSw; (try dsimp only at hSw); go_simp; (try with_reducible rfl); done)
        simp only [Act.put, List.setIfInBounds_toArray, List.set_cons_zero, List.set_cons_succ]
        cases t1 with
        | false =>
          refine rcons 22 rfl (by kernel_rfl) (fun K hK => ?_)
          go_simp
          refine (HC1.out _ hHeld.1).mono ?_; rintro e w5 ⟨rfl, hb⟩
          (try dsimp only)
          refine hK.out _ _ (MK.out _ (hHeld.1.trans (hb.mono hHeld.1.size))) (fun hHeld2 => ?_)
          clear hK K hHeld
          have hHeld := hHeld2
          clear hHeld2
          (try simp only [Act.put, List.setIfInBounds_toArray, List.set_cons_zero, List.set_cons_succ])
          refine tks (fun _ d _ _ _ h => by cases d <;> exact h) hHeld [(23, some 40, some true), (24, some 41, some true)] 0 (by kernel_rfl) rfl ?_
          simp only [lstBy, actBy, vOf, Act.put, List.setIfInBounds_toArray, List.set_cons_zero, List.set_cons_succ]
          refine wpAnyH_done (by kernel_rfl) ?_ _
          have HF : Hid (false = Z) := Lib.hid (by rw [← HQ2.out]; rfl)
          have HBN : Hid (Below w.heap.size w _) := Lib.hid (HB.out.trans (hHeld.1.mono HB.out.size))
          go_wp2_with fail
          go_ret
          exact ⟨ret_b HF.out, HBN.out⟩
        | true =>
          refine rcons 22 rfl (by kernel_rfl) (fun K hK => ?_)
          go_simp
          refine (HC1.out _ hHeld.1).mono ?_; rintro e w5 ⟨rfl, hb⟩
          (try dsimp only)
          refine hK.out _ _ (MK.out _ (hHeld.1.trans (hb.mono hHeld.1.size))) (fun hHeld2 => ?_)
          clear hK K hHeld
          have hHeld := hHeld2
          clear hHeld2
          (try simp only [Act.put, List.setIfInBounds_toArray, List.set_cons_zero, List.set_cons_succ])
          refine tks (fun _ d _ _ _ h => by cases d <;> exact h) hHeld [(23, some 40, some false), (24, some 41, some false)] 0 (by kernel_rfl) rfl ?_
          simp only [lstBy, actBy, vOf, Act.put, List.setIfInBounds_toArray, List.set_cons_zero, List.set_cons_succ]
          refine wpAnyH_done (by kernel_rfl) ?_ _
          have HF : Hid (eqB (L.drop (i + 1)) (M.drop (i + 1)) = Z) := Lib.hid (by rw [← HQ2.out]; rfl)
          have HBN : Hid (Below w.heap.size w _) := Lib.hid (HB.out.trans (hHeld.1.mono HB.out.size))
          go_wp2_with fail
          obtain ⟨hg1, hg2⟩ := HGG.out
          go_roundg g
          case measure => omega
          case rel => exact ⟨i + 1, rfl, ⟨by omega, by omega⟩, by omega, HF, HBN⟩
    · have hin2 : i = n := by omega
      have HF : Hid (true = Z) := Lib.hid (by
        have h1 := HN.out
        have h2 := HM.out
        rw [← HQ.out, List.drop_of_length_le (by omega), List.drop_of_length_le (by omega)]
        exact (eqB_self _).symm)
      clear HQ
      subst hin2
      clear hin
      go_wp2_with fail
      go_ret
      exact ⟨ret_b HF.out, HB.out⟩
theorem rsa_any (L M : List (ArgD)) (u v : Value) (hl : L.length ≤ 100000) (hm : M.length ≤ 100000) (w : World) (h1 : ArgSl u L w) (h2 : ArgSl v M w) (hs1 : ∀ x ∈ L, ArgSm x) (hs2 : ∀ x ∈ M, ArgSm x) :
    Calls Tryz.prog 54 #[u, v] w fun e w' => e = .returned (.bool (eqB L M)) ∧ Below w.heap.size w w' := by
  by_cases hlm : L.length = M.length
  · rcases h1 with ⟨a1, c1, rfl, rfl⟩ | ⟨b1, o1, c1, rfl, h1, p1⟩
    · obtain rfl : M = [] := List.eq_nil_of_length_eq_zero hlm.symm
      rw [eqB_self]
      rcases h2 with ⟨a2, c2, rfl, _⟩ | ⟨b2, o2, c2, rfl, h2, p2⟩
      · exact rsa_none a1 a2 c1 c2 w
      · exact rsa_none a1 _ c1 c2 w
    · rcases h2 with ⟨a2, c2, rfl, rfl⟩ | ⟨b2, o2, c2, rfl, h2, p2⟩
      · obtain rfl : L = [] := List.eq_nil_of_length_eq_zero hlm
        rw [eqB_self]
        exact rsa_none _ a2 c1 c2 w
      · rw [← hlm]
        exact rsa_row L M b1 o1 c1 b2 o2 c2 hl hlm w h1 h2 hs1 hs2
  · rw [eqB_len hlm]
    rcases h1 with ⟨a1, c1, rfl, rfl⟩ | ⟨b1, o1, c1, rfl, h1, p1⟩
    · rcases h2 with ⟨a2, c2, rfl, rfl⟩ | ⟨b2, o2, c2, rfl, h2, p2⟩
      · exact absurd rfl hlm
      · exact rsa_len a1 _ _ _ 0 _ (by omega) hm hlm w
    · rcases h2 with ⟨a2, c2, rfl, rfl⟩ | ⟨b2, o2, c2, rfl, h2, p2⟩
      · exact rsa_len _ a2 _ _ _ 0 hl (by omega) hlm w
      · exact rsa_len _ _ _ _ _ _ hl hm hlm w
theorem rsa_eq (L M : List ArgD) (u v : Value) (w : World) (h1 : ArgSl u L w) (h2 : ArgSl v M w) (s1 : ArgsSm L) (s2 : ArgsSm M) :
    Calls Tryz.prog 54 #[u, v] w fun e w' => e = .returned (.bool (eqB L M)) ∧ Below w.heap.size w w' := rsa_any L M u v s1.1 s2.1 w h1 h2 s1.2 s2.2
set_option maxRecDepth 100000 in
theorem rsd_len (v1 v2 : Option Addr) (c1 c2 : Nat) (n m : Nat) (hn : n ≤ 100000) (hm : m ≤ 100000) (hne : n ≠ m) (w : World) :
    Calls Tryz.prog 53 #[.slice v1 n c1, .slice v2 m c2] w fun e w' => e = .returned (.bool false) ∧ Below w.heap.size w w' := by
  have h1 : ((n : Int) != (m : Int)) = true := by rw [bne_iff_ne]; omega
  clear hne
  go_enter Tryz.func53, Tryz.ntmps53
  go_wp2_with fail
  go_ret
  exact ⟨rfl, Below.refl _ _⟩
set_option maxRecDepth 100000 in
theorem rsd_none (a v : Option Addr) (c1 c2 : Nat) (w : World) :
    Calls Tryz.prog 53 #[.slice a 0 c1, .slice v 0 c2] w fun e w' => e = .returned (.bool true) ∧ Below w.heap.size w w' := by
  go_enter Tryz.func53, Tryz.ntmps53
  go_wp2_with fail
  refine wp_loop_rounds 1 ?_; rw [rounds_succ]
  go_wp2_with fail
  go_ret
  exact ⟨rfl, Below.refl _ _⟩
set_option maxRecDepth 100000 in
set_option maxHeartbeats 8000000 in
theorem rsd_row (L M : List (DirD)) (b1 o1 c1 b2 o2 c2 : Nat) (hl : L.length ≤ 100000) (hlm : L.length = M.length) (w : World) (h1 : XRow ArgSlc b1 o1 L w) (h2 : XRow ArgSlc b2 o2 M w) (hs1 : ∀ x ∈ L, DirSm x) (hs2 : ∀ x ∈ M, DirSm x) :
    Calls Tryz.prog 53 #[.slice (some ⟨b1, o1, none⟩) L.length c1, .slice (some ⟨b2, o2, none⟩) L.length c2] w fun e w' => e = .returned (.bool (eqB L M)) ∧ Below w.heap.size w w' := by
  have H1 := Lib.hid h1
  have H2 := Lib.hid h2
  have HS1 := Lib.hid hs1
  have HS2 := Lib.hid hs2
  have HM := Lib.hid hlm
  obtain ⟨Z, hZ⟩ : ∃ Z, eqB L M = Z := ⟨_, rfl⟩
  have HZ0 : Hid (eqB (L.drop 0) (M.drop 0) = Z) := Lib.hid hZ
  rw [hZ]
  obtain ⟨n, hn⟩ : ∃ n, L.length = n := ⟨_, rfl⟩
  have HN := Lib.hid hn
  rw [hn]
  rw [hn] at hl
  clear h1 h2 hs1 hs2 hlm hZ hn
  have hnn : ((n : Int) != (n : Int)) = false := by rw [bne_eq_false_iff_eq]
  go_enter Tryz.func53, Tryz.ntmps53
  go_wp2_with fail
  go_loopg [5] (n + 1) (fun gk iv wr => ∃ i : Nat, iv = .int .i64 (i : Int) ∧ (gk + i ≤ n + 1 ∧ n + 1 ≤ gk + i) ∧ i ≤ n ∧ Hid (eqB (L.drop i) (M.drop i) = Z) ∧ Hid (Below w.heap.size w wr))
  case atStart => exact ⟨0, by go_num, ⟨by omega, by omega⟩, by omega, HZ0, Lib.hid (Below.refl _ _)⟩
  case round =>
    clear HZ0
    rename World => wr
    obtain ⟨i, rfl, ⟨hg1, hg2⟩, hi, HQ, HB⟩ := hrel
    obtain ⟨g, rfl⟩ : ∃ g, gk = g + 1 := ⟨gk - 1, by omega⟩
    have HGG := Lib.hid (And.intro hg1 hg2)
    clear hg1 hg2
    by_cases hin : i < n
    · have hil : i < L.length := by have := HN.out; omega
      have him : i < M.length := by rw [← HM.out]; exact hil
      obtain ⟨yq0, ya, yn, yc, yq1, yy⟩ := (XRow.below H1.out (fun _ _ h => ArgSlc.below h HB.out) HB.out) i hil
      obtain ⟨zq0, za, zn, zc, zq1, zy⟩ := (XRow.below H2.out (fun _ _ h => ArgSlc.below h HB.out) HB.out) i him
      have sm1 := HS1.out L[i] (List.getElem_mem hil)
      have sm2 := HS2.out M[i] (List.getElem_mem him)
      have hq := HQ.out
      rw [eqB_drop _ _ i hil him, eqB_pair] at hq
      have hz := HB.out.size
      obtain ⟨t0, ht0⟩ : ∃ t : Bool, eqB L[i].1 M[i].1 = t := ⟨_, rfl⟩
      rw [ht0] at hq
      have he0 := (eqB_str L[i].1 M[i].1).trans ht0
      obtain ⟨t1, ht1⟩ : ∃ t : Bool, (eqB L[i].2 M[i].2) = t := ⟨_, rfl⟩
      have HC1 : Hid (∀ W, Below wr.heap.size wr W → Calls Tryz.prog 54 #[.slice ya yn yc, .slice za zn zc] W fun e w' => e = .returned (.bool t1) ∧ Below W.heap.size W w') := Lib.hid fun W hW => by
        rw [← ht1]
        exact rsa_eq _ _ _ _ W (ArgSl.below yy.1 hW) (ArgSl.below zy.1 hW) sm1.2 sm2.2
      rw [ht1] at hq
      have HQ2 := Lib.hid hq
      clear hq HQ sm1 sm2 ht0 ht1 yy zy
      generalize (⟨L[i].1.toArray⟩ : ByteArray) = x0 at *
      generalize (⟨M[i].1.toArray⟩ : ByteArray) = x0m at *
      have hi1 : (i : Int).toNat = i := by omega
      have hi2 : (0 : Int) ≤ (i : Int) := by omega
      have hi3 : (i : Int) < (n : Int) := by omega
      have hi4 : IntKind.i64.wrap ((i : Int) + 1) = ((i + 1 : Nat) : Int) := by rw [IntWalk.i64_in _ (by omega)]; omega
      have MK : Hid (∀ W, Below wr.heap.size wr W → (fun W => Below wr.heap.size wr W ∧ W.cell? ⟨b1, o1 + i * 2, none⟩ = some (.string x0) ∧ W.cell? ⟨b1, o1 + i * 2 + 1, none⟩ = some (.slice ya yn yc) ∧ W.cell? ⟨b2, o2 + i * 2, none⟩ = some (.string x0m) ∧ W.cell? ⟨b2, o2 + i * 2 + 1, none⟩ = some (.slice za zn zc)) W) := Lib.hid fun W hW => ⟨hW, (hW.cell (p := ⟨_, _, none⟩) (lt_of_cell yq0)).trans yq0, (hW.cell (p := ⟨_, _, none⟩) (lt_of_cell yq1)).trans yq1, (hW.cell (p := ⟨_, _, none⟩) (lt_of_cell zq0)).trans zq0, (hW.cell (p := ⟨_, _, none⟩) (lt_of_cell zq1)).trans zq1⟩
      have pb := lt_of_cell yq0
      have qb := lt_of_cell zq0
      go_wp2_with fail
      refine wp_region_held_drew (S := fun W => Below wr.heap.size wr W ∧ W.cell? ⟨b1, o1 + i * 2, none⟩ = some (.string x0) ∧ W.cell? ⟨b1, o1 + i * 2 + 1, none⟩ = some (.slice ya yn yc) ∧ W.cell? ⟨b2, o2 + i * 2, none⟩ = some (.string x0m) ∧ W.cell? ⟨b2, o2 + i * 2 + 1, none⟩ = some (.slice za zn zc)) (by kernel_rfl) (MK.out _ ⟨rfl, rfl, rfl, Nat.le_refl _, fun _ _ => rfl⟩) (fun hHeld => ?_)
      refine tky 0 (some 17) (v := ?_) rfl (by kernel_rfl) (by kernel_rfl) (by kernel_rfl) (fun _ _ _ h => h) ?_ hHeld ?_
      rotate_left
      focus (intro w hSw; (try dsimp only at hSw); go_simp; (try with_reducible rfl); done)
      simp only [Act.put, List.setIfInBounds_toArray, List.set_cons_zero, List.set_cons_succ]
      refine tky 1 (some 18) (v := ?_) rfl (by kernel_rfl) (by kernel_rfl) (by kernel_rfl) (fun _ _ _ h => h) ?_ hHeld ?_
      rotate_left
      focus (intro w hSw; (try dsimp only at hSw); go_simp; (try with_reducible rfl); done)
      simp only [Act.put, List.setIfInBounds_toArray, List.set_cons_zero, List.set_cons_succ]
      refine tky 2 (some 19) (v := ?_) rfl (by kernel_rfl) (by kernel_rfl) (by kernel_rfl) (fun _ _ _ h => h) ?_ hHeld ?_
      rotate_left
      focus (intro w hSw; (try dsimp only at hSw); go_simp; (try with_reducible rfl); done)
      simp only [Act.put, List.setIfInBounds_toArray, List.set_cons_zero, List.set_cons_succ]
      refine tky 3 (some 20) (v := ?_) rfl (by kernel_rfl) (by kernel_rfl) (by kernel_rfl) (fun _ _ _ h => h) ?_ hHeld ?_
      rotate_left
      focus (intro w hSw; (try dsimp only at hSw); go_simp; (try with_reducible rfl); done)
      simp only [Act.put, List.setIfInBounds_toArray, List.set_cons_zero, List.set_cons_succ]
      refine tky 4 (some 21) (v := ?_) rfl (by kernel_rfl) (by kernel_rfl) (by kernel_rfl) (fun _ _ _ h => h) ?_ hHeld ?_
      rotate_left
      focus (intro w hSw; (try dsimp only at hSw); go_simp; (try with_reducible rfl); done)
      simp only [Act.put, List.setIfInBounds_toArray, List.set_cons_zero, List.set_cons_succ]
      refine tky 5 (some 22) (v := ?_) rfl (by kernel_rfl) (by kernel_rfl) (by kernel_rfl) (fun _ _ _ h => h) ?_ hHeld ?_
      rotate_left
      focus (intro w hSw; (try dsimp only at hSw); go_simp; (try with_reducible rfl); done)
      simp only [Act.put, List.setIfInBounds_toArray, List.set_cons_zero, List.set_cons_succ]
      refine tky 6 (some 23) (v := ?_) rfl (by kernel_rfl) (by kernel_rfl) (by kernel_rfl) (fun _ _ _ h => h) ?_ hHeld ?_
      rotate_left
      focus (intro w hSw; (try dsimp only at hSw); go_simp; (try with_reducible rfl); done)
      simp only [Act.put, List.setIfInBounds_toArray, List.set_cons_zero, List.set_cons_succ]
      refine tky 7 (some 24) (v := ?_) rfl (by kernel_rfl) (by kernel_rfl) (by kernel_rfl) (fun _ _ _ h => h) ?_ hHeld ?_
      rotate_left
      focus (intro w hSw; (try dsimp only at hSw); go_simp; (try with_reducible rfl); done)
      simp only [Act.put, List.setIfInBounds_toArray, List.set_cons_zero, List.set_cons_succ]
      refine tky 8 (some 25) (v := ?_) rfl (by kernel_rfl) (by kernel_rfl) (by kernel_rfl) (fun _ _ _ h => h) ?_ hHeld ?_
      rotate_left
      focus (intro w hSw; (try dsimp only at hSw); go_simp; (try with_reducible rfl); done)
      simp only [Act.put, List.setIfInBounds_toArray, List.set_cons_zero, List.set_cons_succ]
      refine tky 9 (some 26) (v := ?_) rfl (by kernel_rfl) (by kernel_rfl) (by kernel_rfl) (fun _ _ _ h => h) ?_ hHeld ?_
      rotate_left
      focus (intro w hSw; (try dsimp only at hSw); go_simp; (try with_reducible rfl); done)
      simp only [Act.put, List.setIfInBounds_toArray, List.set_cons_zero, List.set_cons_succ]
      cases t0 with
      | false =>
        refine tky 10 (some 27) (v := ?_) rfl (by kernel_rfl) (by kernel_rfl) (by kernel_rfl) (fun _ _ _ h => h) ?_ hHeld ?_
        rotate_left
        focus (intro w hSw; (try dsimp only at hSw); go_simp; (try with_reducible rfl); done)
        simp only [Act.put, List.setIfInBounds_toArray, List.set_cons_zero, List.set_cons_succ]
        refine tks (fun _ d _ _ _ h => by cases d <;> exact h) hHeld [(11, some 28, some true), (12, some 29, none), (13, some 30, none), (14, some 31, none), (15, some 32, none), (16, some 33, none), (17, some 34, none), (18, some 35, none), (19, some 36, none), (20, some 37, none), (21, some 38, none), (22, some 39, none), (23, some 40, none), (24, some 41, some true)] 0 (by kernel_rfl) rfl ?_
        simp only [lstBy, actBy, vOf, Act.put, List.setIfInBounds_toArray, List.set_cons_zero, List.set_cons_succ]
        refine wpAnyH_done (by kernel_rfl) ?_ _
        have HF : Hid (false = Z) := Lib.hid (by rw [← HQ2.out]; rfl)
        have HBN : Hid (Below w.heap.size w _) := Lib.hid (HB.out.trans (hHeld.1.mono HB.out.size))
        go_wp2_with fail
        go_ret
        exact ⟨ret_b HF.out, HBN.out⟩
      | true =>
        refine tky 10 (some 27) (v := ?_) rfl (by kernel_rfl) (by kernel_rfl) (by kernel_rfl) (fun _ _ _ h => h) ?_ hHeld ?_
        rotate_left
        focus (intro w hSw; (try dsimp only at hSw); go_simp; (try with_reducible rfl); done)
        simp only [Act.put, List.setIfInBounds_toArray, List.set_cons_zero, List.set_cons_succ]
        refine tks (fun _ d _ _ _ h => by cases d <;> exact h) hHeld [(11, some 28, some false)] 13 (by kernel_rfl) rfl ?_
        simp only [lstBy, actBy, vOf, Act.put, List.setIfInBounds_toArray, List.set_cons_zero, List.set_cons_succ]
        refine tky 12 (some 29) (v := ?_) rfl (by kernel_rfl) (by kernel_rfl) (by kernel_rfl) (fun _ _ _ h => h) ?_ hHeld ?_
        rotate_left
        focus (intro w hSw; (try dsimp only at hSw); go_simp; (try with_reducible rfl); done)
        simp only [Act.put, List.setIfInBounds_toArray, List.set_cons_zero, List.set_cons_succ]
        refine tky 13 (some 30) (v := ?_) rfl (by kernel_rfl) (by kernel_rfl) (by kernel_rfl) (fun _ _ _ h => h) ?_ hHeld ?_
        rotate_left
        focus (intro w hSw; (try dsimp only at hSw); go_simp; (try with_reducible rfl); done)
        simp only [Act.put, List.setIfInBounds_toArray, List.set_cons_zero, List.set_cons_succ]
        refine tky 14 (some 31) (v := ?_) rfl (by kernel_rfl) (by kernel_rfl) (by kernel_rfl) (fun _ _ _ h => h) ?_ hHeld ?_
        rotate_left
        focus (intro w hSw; (try dsimp only at hSw); go_simp; (try with_reducible rfl); done)
        simp only [Act.put, List.setIfInBounds_toArray, List.set_cons_zero, List.set_cons_succ]
        refine tky 15 (some 32) (v := ?_) rfl (by kernel_rfl) (by kernel_rfl) (by kernel_rfl) (fun _ _ _ h => h) ?_ hHeld ?_
        rotate_left
        focus (intro w hSw; (try dsimp only at hSw); go_simp; (try with_reducible rfl); done)
        simp only [Act.put, List.setIfInBounds_toArray, List.set_cons_zero, List.set_cons_succ]
        refine tky 16 (some 33) (v := ?_) rfl (by kernel_rfl) (by kernel_rfl) (by kernel_rfl) (fun _ _ _ h => h) ?_ hHeld ?_
        rotate_left
        focus (intro w hSw; (try dsimp only at hSw); go_simp; (try with_reducible rfl); done)
        simp only [Act.put, List.setIfInBounds_toArray, List.set_cons_zero, List.set_cons_succ]
        refine tky 17 (some 34) (v := ?_) rfl (by kernel_rfl) (by kernel_rfl) (by kernel_rfl) (fun _ _ _ h => h) ?_ hHeld ?_
        rotate_left
        focus (intro w hSw; (try dsimp only at hSw); go_simp; (try with_reducible rfl); done)
        simp only [Act.put, List.setIfInBounds_toArray, List.set_cons_zero, List.set_cons_succ]
        refine tky 18 (some 35) (v := ?_) rfl (by kernel_rfl) (by kernel_rfl) (by kernel_rfl) (fun _ _ _ h => h) ?_ hHeld ?_
        rotate_left
        focus (intro w hSw; (try dsimp only at hSw); go_simp; (try with_reducible rfl); done)
        simp only [Act.put, List.setIfInBounds_toArray, List.set_cons_zero, List.set_cons_succ]
        refine tky 19 (some 36) (v := ?_) rfl (by kernel_rfl) (by kernel_rfl) (by kernel_rfl) (fun _ _ _ h => h) ?_ hHeld ?_
        rotate_left
        focus (intro w hSw; (try dsimp only at hSw); go_simp; (try with_reducible rfl); done)
        simp only [Act.put, List.setIfInBounds_toArray, List.set_cons_zero, List.set_cons_succ]
        refine tky 20 (some 37) (v := ?_) rfl (by kernel_rfl) (by kernel_rfl) (by kernel_rfl) (fun _ _ _ h => h) ?_ hHeld ?_
        rotate_left
        focus (intro w hSw; (try dsimp only at hSw); go_simp; (try with_reducible rfl); done)
        simp only [Act.put, List.setIfInBounds_toArray, List.set_cons_zero, List.set_cons_succ]
        refine tky 21 (some 38) (v := ?_) rfl (by kernel_rfl) (by kernel_rfl) (by kernel_rfl) (fun _ _ _ h => h) ?_ hHeld ?_
        rotate_left
        focus (intro w hSw; (try dsimp only at hSw); go_simp; (try with_reducible rfl); done)
        simp only [Act.put, List.setIfInBounds_toArray, List.set_cons_zero, List.set_cons_succ]
        cases t1 with
        | false =>
          refine rcons 22 rfl (by kernel_rfl) (fun K hK => ?_)
          go_simp
          refine (HC1.out _ hHeld.1).mono ?_; rintro e w5 ⟨rfl, hb⟩
          (try dsimp only)
          refine hK.out _ _ (MK.out _ (hHeld.1.trans (hb.mono hHeld.1.size))) (fun hHeld2 => ?_)
          clear hK K hHeld
          have hHeld := hHeld2
          clear hHeld2
          (try simp only [Act.put, List.setIfInBounds_toArray, List.set_cons_zero, List.set_cons_succ])
          refine tks (fun _ d _ _ _ h => by cases d <;> exact h) hHeld [(23, some 40, some true), (24, some 41, some true)] 0 (by kernel_rfl) rfl ?_
          simp only [lstBy, actBy, vOf, Act.put, List.setIfInBounds_toArray, List.set_cons_zero, List.set_cons_succ]
          refine wpAnyH_done (by kernel_rfl) ?_ _
          have HF : Hid (false = Z) := Lib.hid (by rw [← HQ2.out]; rfl)
          have HBN : Hid (Below w.heap.size w _) := Lib.hid (HB.out.trans (hHeld.1.mono HB.out.size))
          go_wp2_with fail
          go_ret
          exact ⟨ret_b HF.out, HBN.out⟩
        | true =>
          refine rcons 22 rfl (by kernel_rfl) (fun K hK => ?_)
          go_simp
          refine (HC1.out _ hHeld.1).mono ?_; rintro e w5 ⟨rfl, hb⟩
          (try dsimp only)
          refine hK.out _ _ (MK.out _ (hHeld.1.trans (hb.mono hHeld.1.size))) (fun hHeld2 => ?_)
          clear hK K hHeld
          have hHeld := hHeld2
          clear hHeld2
          (try simp only [Act.put, List.setIfInBounds_toArray, List.set_cons_zero, List.set_cons_succ])
          refine tks (fun _ d _ _ _ h => by cases d <;> exact h) hHeld [(23, some 40, some false), (24, some 41, some false)] 0 (by kernel_rfl) rfl ?_
          simp only [lstBy, actBy, vOf, Act.put, List.setIfInBounds_toArray, List.set_cons_zero, List.set_cons_succ]
          refine wpAnyH_done (by kernel_rfl) ?_ _
          have HF : Hid (eqB (L.drop (i + 1)) (M.drop (i + 1)) = Z) := Lib.hid (by rw [← HQ2.out]; rfl)
          have HBN : Hid (Below w.heap.size w _) := Lib.hid (HB.out.trans (hHeld.1.mono HB.out.size))
          go_wp2_with fail
          obtain ⟨hg1, hg2⟩ := HGG.out
          go_roundg g
          case measure => omega
          case rel => exact ⟨i + 1, rfl, ⟨by omega, by omega⟩, by omega, HF, HBN⟩
    · have hin2 : i = n := by omega
      have HF : Hid (true = Z) := Lib.hid (by
        have h1 := HN.out
        have h2 := HM.out
        rw [← HQ.out, List.drop_of_length_le (by omega), List.drop_of_length_le (by omega)]
        exact (eqB_self _).symm)
      clear HQ
      subst hin2
      clear hin
      go_wp2_with fail
      go_ret
      exact ⟨ret_b HF.out, HB.out⟩
theorem rsd_any (L M : List (DirD)) (u v : Value) (hl : L.length ≤ 100000) (hm : M.length ≤ 100000) (w : World) (h1 : DirSlc u L w) (h2 : DirSlc v M w) (hs1 : ∀ x ∈ L, DirSm x) (hs2 : ∀ x ∈ M, DirSm x) :
    Calls Tryz.prog 53 #[u, v] w fun e w' => e = .returned (.bool (eqB L M)) ∧ Below w.heap.size w w' := by
  by_cases hlm : L.length = M.length
  · rcases h1 with ⟨a1, c1, rfl, rfl⟩ | ⟨b1, o1, c1, rfl, h1, p1⟩
    · obtain rfl : M = [] := List.eq_nil_of_length_eq_zero hlm.symm
      rw [eqB_self]
      rcases h2 with ⟨a2, c2, rfl, _⟩ | ⟨b2, o2, c2, rfl, h2, p2⟩
      · exact rsd_none a1 a2 c1 c2 w
      · exact rsd_none a1 _ c1 c2 w
    · rcases h2 with ⟨a2, c2, rfl, rfl⟩ | ⟨b2, o2, c2, rfl, h2, p2⟩
      · obtain rfl : L = [] := List.eq_nil_of_length_eq_zero hlm
        rw [eqB_self]
        exact rsd_none _ a2 c1 c2 w
      · rw [← hlm]
        exact rsd_row L M b1 o1 c1 b2 o2 c2 hl hlm w h1 h2 hs1 hs2
  · rw [eqB_len hlm]
    rcases h1 with ⟨a1, c1, rfl, rfl⟩ | ⟨b1, o1, c1, rfl, h1, p1⟩
    · rcases h2 with ⟨a2, c2, rfl, rfl⟩ | ⟨b2, o2, c2, rfl, h2, p2⟩
      · exact absurd rfl hlm
      · exact rsd_len a1 _ _ _ 0 _ (by omega) hm hlm w
    · rcases h2 with ⟨a2, c2, rfl, rfl⟩ | ⟨b2, o2, c2, rfl, h2, p2⟩
      · exact rsd_len _ a2 _ _ _ 0 hl (by omega) hlm w
      · exact rsd_len _ _ _ _ _ _ hl hm hlm w
theorem rsd_eq (L M : List DirD) (u v : Value) (w : World) (h1 : DirSlc u L w) (h2 : DirSlc v M w) (s1 : DirsSm L) (s2 : DirsSm M) :
    Calls Tryz.prog 53 #[u, v] w fun e w' => e = .returned (.bool (eqB L M)) ∧ Below w.heap.size w w' := rsd_any L M u v s1.1 s2.1 w h1 h2 s1.2 s2.2
end Go.Proofs.YtbejhdhhkpllfaaGreatDoor
