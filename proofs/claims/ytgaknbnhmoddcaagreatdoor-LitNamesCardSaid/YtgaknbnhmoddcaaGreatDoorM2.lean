/- Walks and plain laws of this proof, joined from smaller texts (2). -/
import Derived.Deep.LoopGhost
import Derived.Test.YtgaknbnhmoddcaaGreatDoorRows
import Derived.Below
import Derived.ChangeSame
import Derived.ProofKit
import Derived.Test.YtgaknbnhmoddcaaGreatDoorM1
set_option linter.unusedSimpArgs false
set_option linter.unusedVariables false
namespace Go.Proofs.YtgaknbnhmoddcaaGreatDoor
open Go.RowKit
set_option maxRecDepth 100000 in
set_option maxHeartbeats 4000000 in
theorem sameargs_row (L : List (List UInt8 × List Cel)) (b1 o1 c1 b2 o2 c2 : Nat) (hl : L.length ≤ 100000) (w : World) (h1 : XRow CelSl b1 o1 L w) (h2 : XRow CelSl b2 o2 L w)
    (hin : ∀ (i : Nat) (h : i < L.length) (u v : Value) (W : World), CelSl u L[i].2 W → CelSl v L[i].2 W → Calls Tryz.prog 20 #[u, v] W fun e w' => e = .returned (.bool true) ∧ Below W.heap.size W w') :
    Calls Tryz.prog 33 #[.slice (some ⟨b1, o1, none⟩) L.length c1, .slice (some ⟨b2, o2, none⟩) L.length c2] w fun e w' => e = .returned (.bool true) ∧ Below w.heap.size w w' := by
  have HA := Lib.hid h1
  have HB := Lib.hid h2
  have HIN := Lib.hid hin
  obtain ⟨n, hn⟩ : ∃ n, L.length = n := ⟨_, rfl⟩
  have HN := Lib.hid hn
  rw [hn]
  rw [hn] at hl
  clear h1 h2 hin hn
  go_enter Tryz.func33, Tryz.ntmps33
  go_wp2_with fail
  go_loopg [5] (n + 1) (fun gk iv wr => ∃ i : Nat, iv = .int .i64 (i : Int) ∧ gk + i ≤ n + 1 ∧ n + 1 ≤ gk + i ∧ i ≤ n ∧ Hid (Below w.heap.size w wr))
  case atStart => exact ⟨0, by go_num, by omega, by omega, by omega, Lib.hid (Below.refl _ _)⟩
  case round =>
    rename World => wr
    obtain ⟨i, rfl, hg1, hg2, hi, HBW⟩ := hrel
    obtain ⟨g, rfl⟩ : ∃ g, gk = g + 1 := ⟨gk - 1, by omega⟩
    have HGG := Lib.hid (And.intro hg1 hg2)
    clear hg1 hg2
    by_cases hin : i < n
    · have hil : i < L.length := by have := HN.out; omega
      obtain ⟨r0, ya, yn, yc, r1, hy⟩ := (XRow.below HA.out (fun _ _ h => CelSl.below h HBW.out) HBW.out) i hil
      obtain ⟨q0, za, zn, zc, q1, hz⟩ := (XRow.below HB.out (fun _ _ h => CelSl.below h HBW.out) HBW.out) i hil
      have HC : Hid (∀ W, Below wr.heap.size wr W → Calls Tryz.prog 20 #[.slice ya yn yc, .slice za zn zc] W fun e w' => e = .returned (.bool true) ∧ Below W.heap.size W w') := Lib.hid fun W hW => HIN.out i hil _ _ W (CelSl.below hy hW) (CelSl.below hz hW)
      clear hy hz
      have hi1 : (i : Int).toNat = i := by omega
      have hi2 : (0 : Int) ≤ (i : Int) := by omega
      have hi3 : (i : Int) < (n : Int) := by omega
      have hi4 : IntKind.i64.wrap ((i : Int) + 1) = ((i + 1 : Nat) : Int) := by rw [IntWalk.i64_in _ (by omega)]; omega
      generalize (⟨(L[i]'hil).1.toArray⟩ : ByteArray) = x at r0 q0
      clear hil
      have MK : Hid (∀ W, Below wr.heap.size wr W → W.cell? ⟨b1, o1 + i * 2, none⟩ = some (.string x) ∧ W.cell? ⟨b1, o1 + i * 2 + 1, none⟩ = some (.slice ya yn yc) ∧ W.cell? ⟨b2, o2 + i * 2, none⟩ = some (.string x) ∧ W.cell? ⟨b2, o2 + i * 2 + 1, none⟩ = some (.slice za zn zc) ∧ Below wr.heap.size wr W) := Lib.hid fun W hW => ⟨(hW.cell (p := ⟨b1, _, none⟩) (lt_of_cell r0)).trans r0, (hW.cell (p := ⟨b1, _, none⟩) (lt_of_cell r0)).trans r1, (hW.cell (p := ⟨b2, _, none⟩) (lt_of_cell q0)).trans q0, (hW.cell (p := ⟨b2, _, none⟩) (lt_of_cell q0)).trans q1, hW⟩
      go_wp2_with fail
      refine wp_region_held_drew (S := fun W => W.cell? ⟨b1, o1 + i * 2, none⟩ = some (.string x) ∧ W.cell? ⟨b1, o1 + i * 2 + 1, none⟩ = some (.slice ya yn yc) ∧ W.cell? ⟨b2, o2 + i * 2, none⟩ = some (.string x) ∧ W.cell? ⟨b2, o2 + i * 2 + 1, none⟩ = some (.slice za zn zc) ∧ Below wr.heap.size wr W) (by kernel_rfl) (MK.out _ ⟨rfl, rfl, rfl, Nat.le_refl _, fun _ _ => rfl⟩) (fun hHeld => ?_)
      refine tky 0 (some 17) (v := ?_) rfl (by kernel_rfl) (by kernel_rfl) (by kernel_rfl) (fun _ _ _ h => h) ?_ hHeld ?_
      rotate_left
      focus (intro w hSw; (try dsimp only at hSw); go_simp; (try with_reducible rfl); done)
      simp only [Act.put, List.setIfInBounds_toArray, List.set_cons_zero, List.set_cons_succ]
      refine tky 1 (some 18) (v := ?_) rfl (by kernel_rfl) (by kernel_rfl) (by kernel_rfl) (fun _ _ _ h => h) ?_ hHeld ?_
      rotate_left
      focus (intro w hSw; (try dsimp only at hSw); go_simp; (try with_reducible rfl); done)
      simp only [Act.put, List.setIfInBounds_toArray, List.set_cons_zero, List.set_cons_succ]
      refine tky 2 (some 19) (v := ?_) rfl (by kernel_rfl) (by kernel_rfl) (by kernel_rfl) (fun _ _ _ h => h) ?_ hHeld ?_
      rotate_left
      focus (intro w hSw; (try dsimp only at hSw); go_simp; (try with_reducible rfl); done)
      simp only [Act.put, List.setIfInBounds_toArray, List.set_cons_zero, List.set_cons_succ]
      refine tky 3 (some 20) (v := ?_) rfl (by kernel_rfl) (by kernel_rfl) (by kernel_rfl) (fun _ _ _ h => h) ?_ hHeld ?_
      rotate_left
      focus (intro w hSw; (try dsimp only at hSw); go_simp; (try with_reducible rfl); done)
      simp only [Act.put, List.setIfInBounds_toArray, List.set_cons_zero, List.set_cons_succ]
      refine tky 4 (some 21) (v := ?_) rfl (by kernel_rfl) (by kernel_rfl) (by kernel_rfl) (fun _ _ _ h => h) ?_ hHeld ?_
      rotate_left
      focus (intro w hSw; (try dsimp only at hSw); go_simp; (try with_reducible rfl); done)
      simp only [Act.put, List.setIfInBounds_toArray, List.set_cons_zero, List.set_cons_succ]
      refine tky 5 (some 22) (v := ?_) rfl (by kernel_rfl) (by kernel_rfl) (by kernel_rfl) (fun _ _ _ h => h) ?_ hHeld ?_
      rotate_left
      focus (intro w hSw; (try dsimp only at hSw); go_simp; (try with_reducible rfl); done)
      simp only [Act.put, List.setIfInBounds_toArray, List.set_cons_zero, List.set_cons_succ]
      refine tky 6 (some 23) (v := ?_) rfl (by kernel_rfl) (by kernel_rfl) (by kernel_rfl) (fun _ _ _ h => h) ?_ hHeld ?_
      rotate_left
      focus (intro w hSw; (try dsimp only at hSw); go_simp; (try with_reducible rfl); done)
      simp only [Act.put, List.setIfInBounds_toArray, List.set_cons_zero, List.set_cons_succ]
      refine tky 7 (some 24) (v := ?_) rfl (by kernel_rfl) (by kernel_rfl) (by kernel_rfl) (fun _ _ _ h => h) ?_ hHeld ?_
      rotate_left
      focus (intro w hSw; (try dsimp only at hSw); go_simp; (try with_reducible rfl); done)
      simp only [Act.put, List.setIfInBounds_toArray, List.set_cons_zero, List.set_cons_succ]
      refine tky 8 (some 25) (v := ?_) rfl (by kernel_rfl) (by kernel_rfl) (by kernel_rfl) (fun _ _ _ h => h) ?_ hHeld ?_
      rotate_left
      focus (intro w hSw; (try dsimp only at hSw); go_simp; (try with_reducible rfl); done)
      simp only [Act.put, List.setIfInBounds_toArray, List.set_cons_zero, List.set_cons_succ]
      refine tky 9 (some 26) (v := ?_) rfl (by kernel_rfl) (by kernel_rfl) (by kernel_rfl) (fun _ _ _ h => h) ?_ hHeld ?_
      rotate_left
      focus (intro w hSw; (try dsimp only at hSw); go_simp; (try with_reducible rfl); done)
      simp only [Act.put, List.setIfInBounds_toArray, List.set_cons_zero, List.set_cons_succ]
      refine tky 10 (some 27) (v := ?_) rfl (by kernel_rfl) (by kernel_rfl) (by kernel_rfl) (fun _ _ _ h => h) ?_ hHeld ?_
      rotate_left
      focus (intro w hSw; (try dsimp only at hSw); go_simp; (try with_reducible rfl); done)
      simp only [Act.put, List.setIfInBounds_toArray, List.set_cons_zero, List.set_cons_succ]
      refine tky 11 (some 28) (v := ?_) rfl (by kernel_rfl) (by kernel_rfl) (by kernel_rfl) (fun _ _ _ h => h) ?_ hHeld ?_
      rotate_left
      focus (intro w hSw; (try dsimp only at hSw); go_simp; (try with_reducible rfl); done)
      simp only [Act.put, List.setIfInBounds_toArray, List.set_cons_zero, List.set_cons_succ]
      refine tky 12 (some 29) (v := ?_) rfl (by kernel_rfl) (by kernel_rfl) (by kernel_rfl) (fun _ _ _ h => h) ?_ hHeld ?_
      rotate_left
      focus (intro w hSw; (try dsimp only at hSw); go_simp; (try with_reducible rfl); done)
      simp only [Act.put, List.setIfInBounds_toArray, List.set_cons_zero, List.set_cons_succ]
      refine tky 13 (some 30) (v := ?_) rfl (by kernel_rfl) (by kernel_rfl) (by kernel_rfl) (fun _ _ _ h => h) ?_ hHeld ?_
      rotate_left
      focus (intro w hSw; (try dsimp only at hSw); go_simp; (try with_reducible rfl); done)
      simp only [Act.put, List.setIfInBounds_toArray, List.set_cons_zero, List.set_cons_succ]
      refine tky 14 (some 31) (v := ?_) rfl (by kernel_rfl) (by kernel_rfl) (by kernel_rfl) (fun _ _ _ h => h) ?_ hHeld ?_
      rotate_left
      focus (intro w hSw; (try dsimp only at hSw); go_simp; (try with_reducible rfl); done)
      simp only [Act.put, List.setIfInBounds_toArray, List.set_cons_zero, List.set_cons_succ]
      refine tky 15 (some 32) (v := ?_) rfl (by kernel_rfl) (by kernel_rfl) (by kernel_rfl) (fun _ _ _ h => h) ?_ hHeld ?_
      rotate_left
      focus (intro w hSw; (try dsimp only at hSw); go_simp; (try with_reducible rfl); done)
      simp only [Act.put, List.setIfInBounds_toArray, List.set_cons_zero, List.set_cons_succ]
      refine tky 16 (some 33) (v := ?_) rfl (by kernel_rfl) (by kernel_rfl) (by kernel_rfl) (fun _ _ _ h => h) ?_ hHeld ?_
      rotate_left
      focus (intro w hSw; (try dsimp only at hSw); go_simp; (try with_reducible rfl); done)
      simp only [Act.put, List.setIfInBounds_toArray, List.set_cons_zero, List.set_cons_succ]
      refine tky 17 (some 34) (v := ?_) rfl (by kernel_rfl) (by kernel_rfl) (by kernel_rfl) (fun _ _ _ h => h) ?_ hHeld ?_
      rotate_left
      focus (intro w hSw; (try dsimp only at hSw); go_simp; (try with_reducible rfl); done)
      simp only [Act.put, List.setIfInBounds_toArray, List.set_cons_zero, List.set_cons_succ]
      refine tky 18 (some 35) (v := ?_) rfl (by kernel_rfl) (by kernel_rfl) (by kernel_rfl) (fun _ _ _ h => h) ?_ hHeld ?_
      rotate_left
      focus (intro w hSw; (try dsimp only at hSw); go_simp; (try with_reducible rfl); done)
      simp only [Act.put, List.setIfInBounds_toArray, List.set_cons_zero, List.set_cons_succ]
      refine tky 19 (some 36) (v := ?_) rfl (by kernel_rfl) (by kernel_rfl) (by kernel_rfl) (fun _ _ _ h => h) ?_ hHeld ?_
      rotate_left
      focus (intro w hSw; (try dsimp only at hSw); go_simp; (try with_reducible rfl); done)
      simp only [Act.put, List.setIfInBounds_toArray, List.set_cons_zero, List.set_cons_succ]
      refine tky 20 (some 37) (v := ?_) rfl (by kernel_rfl) (by kernel_rfl) (by kernel_rfl) (fun _ _ _ h => h) ?_ hHeld ?_
      rotate_left
      focus (intro w hSw; (try dsimp only at hSw); go_simp; (try with_reducible rfl); done)
      simp only [Act.put, List.setIfInBounds_toArray, List.set_cons_zero, List.set_cons_succ]
      refine tky 21 (some 38) (v := ?_) rfl (by kernel_rfl) (by kernel_rfl) (by kernel_rfl) (fun _ _ _ h => h) ?_ hHeld ?_
      rotate_left
      focus (intro w hSw; (try dsimp only at hSw); go_simp; (try with_reducible rfl); done)
      simp only [Act.put, List.setIfInBounds_toArray, List.set_cons_zero, List.set_cons_succ]
      refine rcons 22 rfl (by kernel_rfl) (fun K hK => ?_)
      go_simp
      refine (HC.out _ hHeld.2.2.2.2).mono ?_; rintro e w5 ⟨rfl, hb⟩
      (try dsimp only)
      refine hK.out _ _ (MK.out _ (hHeld.2.2.2.2.trans (hb.mono hHeld.2.2.2.2.size))) (fun hHeld2 => ?_)
      clear hK K hHeld
      have hHeld := hHeld2
      clear hHeld2
      (try simp only [Act.put, List.setIfInBounds_toArray, List.set_cons_zero, List.set_cons_succ])
      refine tky 23 (some 40) (v := ?_) rfl (by kernel_rfl) (by kernel_rfl) (by kernel_rfl) (fun _ _ _ h => h) ?_ hHeld ?_
      rotate_left
      focus (intro w hSw; (try dsimp only at hSw); go_simp; (try with_reducible rfl); done)
      simp only [Act.put, List.setIfInBounds_toArray, List.set_cons_zero, List.set_cons_succ]
      refine tky 24 (some 41) (v := ?_) rfl (by kernel_rfl) (by kernel_rfl) (by kernel_rfl) (fun _ _ _ h => h) ?_ hHeld ?_
      rotate_left
      focus (intro w hSw; (try dsimp only at hSw); go_simp; (try with_reducible rfl); done)
      simp only [Act.put, List.setIfInBounds_toArray, List.set_cons_zero, List.set_cons_succ]
      refine wpAnyH_done (by kernel_rfl) ?_ _
      have HB2 : Hid (Below w.heap.size w w5) := Lib.hid (HBW.out.trans (hHeld.2.2.2.2.mono HBW.out.size))
      clear r0 r1 q0 q1 hHeld hb
      obtain ⟨hg1, hg2⟩ := HGG.out
      go_wp2_with fail
      go_roundg g
      case measure => omega
      case rel => exact ⟨i + 1, rfl, by omega, by omega, by omega, HB2⟩
    · have hin2 : i = n := by omega
      subst hin2
      clear hin
      go_wp2_with fail
      go_ret
      exact ⟨ret_b (by simp), HBW.out⟩
theorem sameargs_none (a v : Option Addr) (c1 c2 : Nat) (w : World) :
    Calls Tryz.prog 33 #[.slice a 0 c1, .slice v 0 c2] w fun e w' => e = .returned (.bool true) ∧ Below w.heap.size w w' := by
  go_enter Tryz.func33, Tryz.ntmps33
  go_wp2_with fail
  refine wp_loop_rounds 1 ?_; rw [rounds_succ]
  go_wp2_with fail
  go_ret
  exact ⟨rfl, Below.refl _ _⟩
theorem sameargs_any (L : List (List UInt8 × List Cel)) (u v : Value) (hl : L.length ≤ 100000) (w : World) (h1 : XSl CelSl u L w) (h2 : XSl CelSl v L w)
    (hin : ∀ (i : Nat) (h : i < L.length) (u v : Value) (W : World), CelSl u L[i].2 W → CelSl v L[i].2 W → Calls Tryz.prog 20 #[u, v] W fun e w' => e = .returned (.bool true) ∧ Below W.heap.size W w') :
    Calls Tryz.prog 33 #[u, v] w fun e w' => e = .returned (.bool true) ∧ Below w.heap.size w w' := by
  rcases h1 with ⟨a1, c1, rfl, rfl⟩ | ⟨b1, o1, c1, rfl, h1, p1⟩
  · rcases h2 with ⟨a2, c2, rfl, _⟩ | ⟨b2, o2, c2, rfl, h2, p2⟩
    · exact sameargs_none a1 a2 c1 c2 w
    · simp at p2
  · rcases h2 with ⟨a2, c2, rfl, rfl⟩ | ⟨b2, o2, c2, rfl, h2, p2⟩
    · simp at p1
    · exact sameargs_row L b1 o1 c1 b2 o2 c2 hl w h1 h2 hin
set_option maxRecDepth 100000 in
set_option maxHeartbeats 4000000 in
theorem samedirs_row (L : List (List UInt8 × List (List UInt8 × List Cel))) (b1 o1 c1 b2 o2 c2 : Nat) (hl : L.length ≤ 100000) (w : World) (h1 : XRow ArgSl b1 o1 L w) (h2 : XRow ArgSl b2 o2 L w)
    (hin : ∀ (i : Nat) (h : i < L.length) (u v : Value) (W : World), ArgSl u L[i].2 W → ArgSl v L[i].2 W → Calls Tryz.prog 33 #[u, v] W fun e w' => e = .returned (.bool true) ∧ Below W.heap.size W w') :
    Calls Tryz.prog 28 #[.slice (some ⟨b1, o1, none⟩) L.length c1, .slice (some ⟨b2, o2, none⟩) L.length c2] w fun e w' => e = .returned (.bool true) ∧ Below w.heap.size w w' := by
  have HA := Lib.hid h1
  have HB := Lib.hid h2
  have HIN := Lib.hid hin
  obtain ⟨n, hn⟩ : ∃ n, L.length = n := ⟨_, rfl⟩
  have HN := Lib.hid hn
  rw [hn]
  rw [hn] at hl
  clear h1 h2 hin hn
  go_enter Tryz.func28, Tryz.ntmps28
  go_wp2_with fail
  go_loopg [5] (n + 1) (fun gk iv wr => ∃ i : Nat, iv = .int .i64 (i : Int) ∧ gk + i ≤ n + 1 ∧ n + 1 ≤ gk + i ∧ i ≤ n ∧ Hid (Below w.heap.size w wr))
  case atStart => exact ⟨0, by go_num, by omega, by omega, by omega, Lib.hid (Below.refl _ _)⟩
  case round =>
    rename World => wr
    obtain ⟨i, rfl, hg1, hg2, hi, HBW⟩ := hrel
    obtain ⟨g, rfl⟩ : ∃ g, gk = g + 1 := ⟨gk - 1, by omega⟩
    have HGG := Lib.hid (And.intro hg1 hg2)
    clear hg1 hg2
    by_cases hin : i < n
    · have hil : i < L.length := by have := HN.out; omega
      obtain ⟨r0, ya, yn, yc, r1, hy⟩ := (XRow.below HA.out (fun _ _ h => ArgSl.below h HBW.out) HBW.out) i hil
      obtain ⟨q0, za, zn, zc, q1, hz⟩ := (XRow.below HB.out (fun _ _ h => ArgSl.below h HBW.out) HBW.out) i hil
      have HC : Hid (∀ W, Below wr.heap.size wr W → Calls Tryz.prog 33 #[.slice ya yn yc, .slice za zn zc] W fun e w' => e = .returned (.bool true) ∧ Below W.heap.size W w') := Lib.hid fun W hW => HIN.out i hil _ _ W (ArgSl.below hy hW) (ArgSl.below hz hW)
      clear hy hz
      have hi1 : (i : Int).toNat = i := by omega
      have hi2 : (0 : Int) ≤ (i : Int) := by omega
      have hi3 : (i : Int) < (n : Int) := by omega
      have hi4 : IntKind.i64.wrap ((i : Int) + 1) = ((i + 1 : Nat) : Int) := by rw [IntWalk.i64_in _ (by omega)]; omega
      generalize (⟨(L[i]'hil).1.toArray⟩ : ByteArray) = x at r0 q0
      clear hil
      have MK : Hid (∀ W, Below wr.heap.size wr W → W.cell? ⟨b1, o1 + i * 2, none⟩ = some (.string x) ∧ W.cell? ⟨b1, o1 + i * 2 + 1, none⟩ = some (.slice ya yn yc) ∧ W.cell? ⟨b2, o2 + i * 2, none⟩ = some (.string x) ∧ W.cell? ⟨b2, o2 + i * 2 + 1, none⟩ = some (.slice za zn zc) ∧ Below wr.heap.size wr W) := Lib.hid fun W hW => ⟨(hW.cell (p := ⟨b1, _, none⟩) (lt_of_cell r0)).trans r0, (hW.cell (p := ⟨b1, _, none⟩) (lt_of_cell r0)).trans r1, (hW.cell (p := ⟨b2, _, none⟩) (lt_of_cell q0)).trans q0, (hW.cell (p := ⟨b2, _, none⟩) (lt_of_cell q0)).trans q1, hW⟩
      go_wp2_with fail
      refine wp_region_held_drew (S := fun W => W.cell? ⟨b1, o1 + i * 2, none⟩ = some (.string x) ∧ W.cell? ⟨b1, o1 + i * 2 + 1, none⟩ = some (.slice ya yn yc) ∧ W.cell? ⟨b2, o2 + i * 2, none⟩ = some (.string x) ∧ W.cell? ⟨b2, o2 + i * 2 + 1, none⟩ = some (.slice za zn zc) ∧ Below wr.heap.size wr W) (by kernel_rfl) (MK.out _ ⟨rfl, rfl, rfl, Nat.le_refl _, fun _ _ => rfl⟩) (fun hHeld => ?_)
      refine tky 0 (some 17) (v := ?_) rfl (by kernel_rfl) (by kernel_rfl) (by kernel_rfl) (fun _ _ _ h => h) ?_ hHeld ?_
      rotate_left
      focus (intro w hSw; (try dsimp only at hSw); go_simp; (try with_reducible rfl); done)
      simp only [Act.put, List.setIfInBounds_toArray, List.set_cons_zero, List.set_cons_succ]
      refine tky 1 (some 18) (v := ?_) rfl (by kernel_rfl) (by kernel_rfl) (by kernel_rfl) (fun _ _ _ h => h) ?_ hHeld ?_
      rotate_left
      focus (intro w hSw; (try dsimp only at hSw); go_simp; (try with_reducible rfl); done)
      simp only [Act.put, List.setIfInBounds_toArray, List.set_cons_zero, List.set_cons_succ]
      refine tky 2 (some 19) (v := ?_) rfl (by kernel_rfl) (by kernel_rfl) (by kernel_rfl) (fun _ _ _ h => h) ?_ hHeld ?_
      rotate_left
      focus (intro w hSw; (try dsimp only at hSw); go_simp; (try with_reducible rfl); done)
      simp only [Act.put, List.setIfInBounds_toArray, List.set_cons_zero, List.set_cons_succ]
      refine tky 3 (some 20) (v := ?_) rfl (by kernel_rfl) (by kernel_rfl) (by kernel_rfl) (fun _ _ _ h => h) ?_ hHeld ?_
      rotate_left
      focus (intro w hSw; (try dsimp only at hSw); go_simp; (try with_reducible rfl); done)
      simp only [Act.put, List.setIfInBounds_toArray, List.set_cons_zero, List.set_cons_succ]
      refine tky 4 (some 21) (v := ?_) rfl (by kernel_rfl) (by kernel_rfl) (by kernel_rfl) (fun _ _ _ h => h) ?_ hHeld ?_
      rotate_left
      focus (intro w hSw; (try dsimp only at hSw); go_simp; (try with_reducible rfl); done)
      simp only [Act.put, List.setIfInBounds_toArray, List.set_cons_zero, List.set_cons_succ]
      refine tky 5 (some 22) (v := ?_) rfl (by kernel_rfl) (by kernel_rfl) (by kernel_rfl) (fun _ _ _ h => h) ?_ hHeld ?_
      rotate_left
      focus (intro w hSw; (try dsimp only at hSw); go_simp; (try with_reducible rfl); done)
      simp only [Act.put, List.setIfInBounds_toArray, List.set_cons_zero, List.set_cons_succ]
      refine tky 6 (some 23) (v := ?_) rfl (by kernel_rfl) (by kernel_rfl) (by kernel_rfl) (fun _ _ _ h => h) ?_ hHeld ?_
      rotate_left
      focus (intro w hSw; (try dsimp only at hSw); go_simp; (try with_reducible rfl); done)
      simp only [Act.put, List.setIfInBounds_toArray, List.set_cons_zero, List.set_cons_succ]
      refine tky 7 (some 24) (v := ?_) rfl (by kernel_rfl) (by kernel_rfl) (by kernel_rfl) (fun _ _ _ h => h) ?_ hHeld ?_
      rotate_left
      focus (intro w hSw; (try dsimp only at hSw); go_simp; (try with_reducible rfl); done)
      simp only [Act.put, List.setIfInBounds_toArray, List.set_cons_zero, List.set_cons_succ]
      refine tky 8 (some 25) (v := ?_) rfl (by kernel_rfl) (by kernel_rfl) (by kernel_rfl) (fun _ _ _ h => h) ?_ hHeld ?_
      rotate_left
      focus (intro w hSw; (try dsimp only at hSw); go_simp; (try with_reducible rfl); done)
      simp only [Act.put, List.setIfInBounds_toArray, List.set_cons_zero, List.set_cons_succ]
      refine tky 9 (some 26) (v := ?_) rfl (by kernel_rfl) (by kernel_rfl) (by kernel_rfl) (fun _ _ _ h => h) ?_ hHeld ?_
      rotate_left
      focus (intro w hSw; (try dsimp only at hSw); go_simp; (try with_reducible rfl); done)
      simp only [Act.put, List.setIfInBounds_toArray, List.set_cons_zero, List.set_cons_succ]
      refine tky 10 (some 27) (v := ?_) rfl (by kernel_rfl) (by kernel_rfl) (by kernel_rfl) (fun _ _ _ h => h) ?_ hHeld ?_
      rotate_left
      focus (intro w hSw; (try dsimp only at hSw); go_simp; (try with_reducible rfl); done)
      simp only [Act.put, List.setIfInBounds_toArray, List.set_cons_zero, List.set_cons_succ]
      refine tky 11 (some 28) (v := ?_) rfl (by kernel_rfl) (by kernel_rfl) (by kernel_rfl) (fun _ _ _ h => h) ?_ hHeld ?_
      rotate_left
      focus (intro w hSw; (try dsimp only at hSw); go_simp; (try with_reducible rfl); done)
      simp only [Act.put, List.setIfInBounds_toArray, List.set_cons_zero, List.set_cons_succ]
      refine tky 12 (some 29) (v := ?_) rfl (by kernel_rfl) (by kernel_rfl) (by kernel_rfl) (fun _ _ _ h => h) ?_ hHeld ?_
      rotate_left
      focus (intro w hSw; (try dsimp only at hSw); go_simp; (try with_reducible rfl); done)
      simp only [Act.put, List.setIfInBounds_toArray, List.set_cons_zero, List.set_cons_succ]
      refine tky 13 (some 30) (v := ?_) rfl (by kernel_rfl) (by kernel_rfl) (by kernel_rfl) (fun _ _ _ h => h) ?_ hHeld ?_
      rotate_left
      focus (intro w hSw; (try dsimp only at hSw); go_simp; (try with_reducible rfl); done)
      simp only [Act.put, List.setIfInBounds_toArray, List.set_cons_zero, List.set_cons_succ]
      refine tky 14 (some 31) (v := ?_) rfl (by kernel_rfl) (by kernel_rfl) (by kernel_rfl) (fun _ _ _ h => h) ?_ hHeld ?_
      rotate_left
      focus (intro w hSw; (try dsimp only at hSw); go_simp; (try with_reducible rfl); done)
      simp only [Act.put, List.setIfInBounds_toArray, List.set_cons_zero, List.set_cons_succ]
      refine tky 15 (some 32) (v := ?_) rfl (by kernel_rfl) (by kernel_rfl) (by kernel_rfl) (fun _ _ _ h => h) ?_ hHeld ?_
      rotate_left
      focus (intro w hSw; (try dsimp only at hSw); go_simp; (try with_reducible rfl); done)
      simp only [Act.put, List.setIfInBounds_toArray, List.set_cons_zero, List.set_cons_succ]
      refine tky 16 (some 33) (v := ?_) rfl (by kernel_rfl) (by kernel_rfl) (by kernel_rfl) (fun _ _ _ h => h) ?_ hHeld ?_
      rotate_left
      focus (intro w hSw; (try dsimp only at hSw); go_simp; (try with_reducible rfl); done)
      simp only [Act.put, List.setIfInBounds_toArray, List.set_cons_zero, List.set_cons_succ]
      refine tky 17 (some 34) (v := ?_) rfl (by kernel_rfl) (by kernel_rfl) (by kernel_rfl) (fun _ _ _ h => h) ?_ hHeld ?_
      rotate_left
      focus (intro w hSw; (try dsimp only at hSw); go_simp; (try with_reducible rfl); done)
      simp only [Act.put, List.setIfInBounds_toArray, List.set_cons_zero, List.set_cons_succ]
      refine tky 18 (some 35) (v := ?_) rfl (by kernel_rfl) (by kernel_rfl) (by kernel_rfl) (fun _ _ _ h => h) ?_ hHeld ?_
      rotate_left
      focus (intro w hSw; (try dsimp only at hSw); go_simp; (try with_reducible rfl); done)
      simp only [Act.put, List.setIfInBounds_toArray, List.set_cons_zero, List.set_cons_succ]
      refine tky 19 (some 36) (v := ?_) rfl (by kernel_rfl) (by kernel_rfl) (by kernel_rfl) (fun _ _ _ h => h) ?_ hHeld ?_
      rotate_left
      focus (intro w hSw; (try dsimp only at hSw); go_simp; (try with_reducible rfl); done)
      simp only [Act.put, List.setIfInBounds_toArray, List.set_cons_zero, List.set_cons_succ]
      refine tky 20 (some 37) (v := ?_) rfl (by kernel_rfl) (by kernel_rfl) (by kernel_rfl) (fun _ _ _ h => h) ?_ hHeld ?_
      rotate_left
      focus (intro w hSw; (try dsimp only at hSw); go_simp; (try with_reducible rfl); done)
      simp only [Act.put, List.setIfInBounds_toArray, List.set_cons_zero, List.set_cons_succ]
      refine tky 21 (some 38) (v := ?_) rfl (by kernel_rfl) (by kernel_rfl) (by kernel_rfl) (fun _ _ _ h => h) ?_ hHeld ?_
      rotate_left
      focus (intro w hSw; (try dsimp only at hSw); go_simp; (try with_reducible rfl); done)
      simp only [Act.put, List.setIfInBounds_toArray, List.set_cons_zero, List.set_cons_succ]
      refine rcons 22 rfl (by kernel_rfl) (fun K hK => ?_)
      go_simp
      refine (HC.out _ hHeld.2.2.2.2).mono ?_; rintro e w5 ⟨rfl, hb⟩
      (try dsimp only)
      refine hK.out _ _ (MK.out _ (hHeld.2.2.2.2.trans (hb.mono hHeld.2.2.2.2.size))) (fun hHeld2 => ?_)
      clear hK K hHeld
      have hHeld := hHeld2
      clear hHeld2
      (try simp only [Act.put, List.setIfInBounds_toArray, List.set_cons_zero, List.set_cons_succ])
      refine tky 23 (some 40) (v := ?_) rfl (by kernel_rfl) (by kernel_rfl) (by kernel_rfl) (fun _ _ _ h => h) ?_ hHeld ?_
      rotate_left
      focus (intro w hSw; (try dsimp only at hSw); go_simp; (try with_reducible rfl); done)
      simp only [Act.put, List.setIfInBounds_toArray, List.set_cons_zero, List.set_cons_succ]
      refine tky 24 (some 41) (v := ?_) rfl (by kernel_rfl) (by kernel_rfl) (by kernel_rfl) (fun _ _ _ h => h) ?_ hHeld ?_
      rotate_left
      focus (intro w hSw; (try dsimp only at hSw); go_simp; (try with_reducible rfl); done)
      simp only [Act.put, List.setIfInBounds_toArray, List.set_cons_zero, List.set_cons_succ]
      refine wpAnyH_done (by kernel_rfl) ?_ _
      have HB2 : Hid (Below w.heap.size w w5) := Lib.hid (HBW.out.trans (hHeld.2.2.2.2.mono HBW.out.size))
      clear r0 r1 q0 q1 hHeld hb
      obtain ⟨hg1, hg2⟩ := HGG.out
      go_wp2_with fail
      go_roundg g
      case measure => omega
      case rel => exact ⟨i + 1, rfl, by omega, by omega, by omega, HB2⟩
    · have hin2 : i = n := by omega
      subst hin2
      clear hin
      go_wp2_with fail
      go_ret
      exact ⟨ret_b (by simp), HBW.out⟩
theorem samedirs_none (a v : Option Addr) (c1 c2 : Nat) (w : World) :
    Calls Tryz.prog 28 #[.slice a 0 c1, .slice v 0 c2] w fun e w' => e = .returned (.bool true) ∧ Below w.heap.size w w' := by
  go_enter Tryz.func28, Tryz.ntmps28
  go_wp2_with fail
  refine wp_loop_rounds 1 ?_; rw [rounds_succ]
  go_wp2_with fail
  go_ret
  exact ⟨rfl, Below.refl _ _⟩
theorem samedirs_any (L : List (List UInt8 × List (List UInt8 × List Cel))) (u v : Value) (hl : L.length ≤ 100000) (w : World) (h1 : XSl ArgSl u L w) (h2 : XSl ArgSl v L w)
    (hin : ∀ (i : Nat) (h : i < L.length) (u v : Value) (W : World), ArgSl u L[i].2 W → ArgSl v L[i].2 W → Calls Tryz.prog 33 #[u, v] W fun e w' => e = .returned (.bool true) ∧ Below W.heap.size W w') :
    Calls Tryz.prog 28 #[u, v] w fun e w' => e = .returned (.bool true) ∧ Below w.heap.size w w' := by
  rcases h1 with ⟨a1, c1, rfl, rfl⟩ | ⟨b1, o1, c1, rfl, h1, p1⟩
  · rcases h2 with ⟨a2, c2, rfl, _⟩ | ⟨b2, o2, c2, rfl, h2, p2⟩
    · exact samedirs_none a1 a2 c1 c2 w
    · simp at p2
  · rcases h2 with ⟨a2, c2, rfl, rfl⟩ | ⟨b2, o2, c2, rfl, h2, p2⟩
    · simp at p1
    · exact samedirs_row L b1 o1 c1 b2 o2 c2 hl w h1 h2 hin
theorem sameargs_self (L : List (List UInt8 × List Cel)) (hl : L.length ≤ 100000) (hc : ∀ (i : Nat) (h : i < L.length), L[i].2.length ≤ 100000) (u v : Value) (w : World) (h1 : ArgSl u L w) (h2 : ArgSl v L w) :
    Calls Tryz.prog 33 #[u, v] w fun e w' => e = .returned (.bool true) ∧ Below w.heap.size w w' := by
  refine sameargs_any L u v hl w h1 h2 fun i hi u v W hu hv => ?_
  have := rsame03_any L[i].2 L[i].2 u v (hc i hi) (hc i hi) W hu hv
  rw [(sameV_iff _ _).2 rfl] at this
  exact this
theorem samedirs_self (L : List (List UInt8 × List (List UInt8 × List Cel))) (hl : L.length ≤ 100000) (hc : ∀ (i : Nat) (h : i < L.length), L[i].2.length ≤ 100000 ∧ ∀ (j : Nat) (h : j < L[i].2.length), L[i].2[j].2.length ≤ 100000) (u v : Value) (w : World) (h1 : DirSl u L w) (h2 : DirSl v L w) :
    Calls Tryz.prog 28 #[u, v] w fun e w' => e = .returned (.bool true) ∧ Below w.heap.size w w' :=
  samedirs_any L u v hl w h1 h2 fun i hi u v W hu hv => sameargs_self L[i].2 (hc i hi).1 (hc i hi).2 u v W hu hv
end Go.Proofs.YtgaknbnhmoddcaaGreatDoor
namespace Go.Proofs.YtgaknbnhmoddcaaGreatDoor
open Go.RowKit
theorem typ_ex : ∃ k, typG (lexT exTyp) 10 0 0 = .ok (k, 4, [73, 110, 116], [2, 1]) := by
  have h := el_typ.2
  unfold typP at h
  cases hp : typG (lexT exTyp) 10 0 0 with
  | error e => rw [hp] at h; cases h
  | ok x =>
    obtain ⟨k, a, nm, ws⟩ := x
    rw [hp] at h
    injection h with h
    injection h with h1 h2
    injection h2 with h2 h3
    exact ⟨k, by rw [h1, h2, h3]⟩
def dirEx : List (List UInt8 × List (List UInt8 × List Cel)) := [([97], []), ([98], [([99], [⟨2, [], [], 1, 0⟩])])]
theorem dirs_ex : lexT exDirs ≠ [] ∧ dirsP true (lexT exDirs) 0 = .ok (9, dirEx) := by
  have h := el_dirs
  simp only [Bool.and_eq_true] at h
  obtain ⟨h1, h2⟩ := h
  refine ⟨(fun e => by rw [e] at h1; cases h1), ?_⟩
  generalize dirsP true (lexT exDirs) 0 = R at h2 ⊢
  split at h2
  · rw [celsE_eq _ _ h2]; rfl
  · cases h2
theorem args_ex : lexT exArgs ≠ [] ∧ argsP true (lexT exArgs) 0 = .error (180, 1) := by
  have h := el_args
  obtain ⟨h1, h2⟩ := h
  refine ⟨(fun e => by rw [e] at h1; cases h1), ?_⟩
  cases hp : argsP true (lexT exArgs) 0 with
  | ok x => rw [hp] at h2; cases h2
  | error x =>
    rw [hp] at h2
    simp only [Bool.and_eq_true, beq_iff_eq] at h2
    obtain ⟨x1, x2⟩ := x
    simp only at h2
    rw [h2.1, h2.2]
theorem dir_ex_sl (W : World) : DirSl (.slice (some ⟨W.heap.size + 1 + 1, 0, none⟩) 2 2) dirEx (((W.alloc (.cells #[.int .u8 2, .string ⟨#[]⟩, .string ⟨#[]⟩, .int .i64 1, .int .i64 0] 63)).alloc (.cells #[.string ⟨#[99]⟩, .slice (some ⟨W.heap.size, 0, none⟩) 1 1] 65)).alloc (.cells #[.string ⟨#[97]⟩, .slice none 0 0, .string ⟨#[98]⟩, .slice (some ⟨W.heap.size + 1, 0, none⟩) 1 1] 61)) := by
  have hc : CelSl (.slice (some ⟨W.heap.size, 0, none⟩) 1 1) [⟨2, [], [], 1, 0⟩] (((W.alloc (.cells #[.int .u8 2, .string ⟨#[]⟩, .string ⟨#[]⟩, .int .i64 1, .int .i64 0] 63)).alloc (.cells #[.string ⟨#[99]⟩, .slice (some ⟨W.heap.size, 0, none⟩) 1 1] 65)).alloc (.cells #[.string ⟨#[97]⟩, .slice none 0 0, .string ⟨#[98]⟩, .slice (some ⟨W.heap.size + 1, 0, none⟩) 1 1] 61)) :=
    ((cel_fresh (k := 1) (C := #[.int .u8 2, .string ⟨#[]⟩, .string ⟨#[]⟩, .int .i64 1, .int .i64 0]) rfl rfl (by decide) W).below ((Below.refl _ _).alloc (Nat.le_refl _) _)).below ((Below.refl _ _).alloc (Nat.le_refl _) _)
  have ha : (((W.alloc (.cells #[.int .u8 2, .string ⟨#[]⟩, .string ⟨#[]⟩, .int .i64 1, .int .i64 0] 63)).alloc (.cells #[.string ⟨#[99]⟩, .slice (some ⟨W.heap.size, 0, none⟩) 1 1] 65)).alloc (.cells #[.string ⟨#[97]⟩, .slice none 0 0, .string ⟨#[98]⟩, .slice (some ⟨W.heap.size + 1, 0, none⟩) 1 1] 61)).heap[W.heap.size + 1]? = some (.cells #[.string ⟨#[99]⟩, .slice (some ⟨W.heap.size, 0, none⟩) 1 1] 65 (0, 0)) := heap_old (heap_new _ _ _ (by simp))
  have hd : (((W.alloc (.cells #[.int .u8 2, .string ⟨#[]⟩, .string ⟨#[]⟩, .int .i64 1, .int .i64 0] 63)).alloc (.cells #[.string ⟨#[99]⟩, .slice (some ⟨W.heap.size, 0, none⟩) 1 1] 65)).alloc (.cells #[.string ⟨#[97]⟩, .slice none 0 0, .string ⟨#[98]⟩, .slice (some ⟨W.heap.size + 1, 0, none⟩) 1 1] 61)).heap[W.heap.size + 1 + 1]? = some (.cells #[.string ⟨#[97]⟩, .slice none 0 0, .string ⟨#[98]⟩, .slice (some ⟨W.heap.size + 1, 0, none⟩) 1 1] 61 (0, 0)) := heap_new _ _ _ (by simp)
  generalize ((W.alloc (.cells #[.int .u8 2, .string ⟨#[]⟩, .string ⟨#[]⟩, .int .i64 1, .int .i64 0] 63)).alloc (.cells #[.string ⟨#[99]⟩, .slice (some ⟨W.heap.size, 0, none⟩) 1 1] 65)).alloc (.cells #[.string ⟨#[97]⟩, .slice none 0 0, .string ⟨#[98]⟩, .slice (some ⟨W.heap.size + 1, 0, none⟩) 1 1] 61) = V at *
  refine Or.inr ⟨_, 0, 2, rfl, fun i hi => ?_, by decide⟩
  match i, hi with
  | 0, _ => exact ⟨Lib.cell_of_heap hd 0, none, 0, 0, Lib.cell_of_heap hd 1, Or.inl ⟨_, _, rfl, rfl⟩⟩
  | 1, _ =>
    refine ⟨Lib.cell_of_heap hd 2, some ⟨W.heap.size + 1, 0, none⟩, 1, 1, Lib.cell_of_heap hd 3, Or.inr ⟨_, 0, 1, rfl, fun j hj => ?_, Nat.zero_lt_one⟩⟩
    match j, hj with
    | 0, _ => exact ⟨Lib.cell_of_heap ha 0, some ⟨W.heap.size, 0, none⟩, 1, 1, Lib.cell_of_heap ha 1, hc⟩
    | j + 1, hj => exact absurd hj (by simp [dirEx])
  | i + 2, hi => exact absurd hi (by simp [dirEx])
set_option maxRecDepth 100000 in
set_option maxHeartbeats 4000000 in
theorem litnames_walk (w : World) (he : EnvU w ∧ Env w ∧ EnvT w) :
    Calls Tryz.prog 4 #[] w fun e w' => e = .returned (.bool true) ∧ Below w.heap.size w w' := by
  obtain ⟨hU, hE, hT⟩ := he
  have EU : ∀ W, Below w.heap.size w W → EnvU W := fun W hW => hU.below hW
  have EE : ∀ W, Below w.heap.size w W → Env W := fun W hW => hE.below hW (Nat.le_refl _)
  have HAL : Hid (∀ W, Below w.heap.size w W → Calls Tryz.prog 29 #[] W fun e w' => e = .returned (.bool true) ∧ Below W.heap.size W w') := Lib.hid fun W hW => lalive18 W (EU W hW) (EE W hW)
  have HF0 : Hid (∀ W, Below w.heap.size w W → Calls Tryz.prog 26 #[.string ⟨#[36, 120]⟩, .bool true, .int .i64 180, .int .i64 0] W fun x w' => x = .returned (.bool true) ∧ Below W.heap.size W w') := Lib.hid fun W hW => fails18 ⟨#[36, 120]⟩ (by decide) true 180 0 (by decide) el_var W (EU W hW) (EE W hW)
  have HF1 : Hid (∀ W, Below w.heap.size w W → Calls Tryz.prog 26 #[.string ⟨#[123, 97, 32, 49, 125]⟩, .bool true, .int .i64 180, .int .i64 2] W fun x w' => x = .returned (.bool true) ∧ Below W.heap.size W w') := Lib.hid fun W hW => fails18 ⟨#[123, 97, 32, 49, 125]⟩ (by decide) true 180 2 (by decide) el_colon W (EU W hW) (EE W hW)
  have HF2 : Hid (∀ W, Below w.heap.size w W → Calls Tryz.prog 26 #[.string ⟨#[123, 97, 58, 49, 32, 97, 58, 50, 125]⟩, .bool true, .int .i64 42, .int .i64 4] W fun x w' => x = .returned (.bool true) ∧ Below W.heap.size W w') := Lib.hid fun W hW => fails18 ⟨#[123, 97, 58, 49, 32, 97, 58, 50, 125]⟩ (by decide) true 42 4 (by decide) el_twice W (EU W hW) (EE W hW)
  have HF3 : Hid (∀ W, Below w.heap.size w W → Calls Tryz.prog 26 #[.string ⟨#[57, 50, 50, 51, 51, 55, 50, 48, 51, 54, 56, 53, 52, 55, 55, 53, 56, 48, 56]⟩, .bool true, .int .i64 41, .int .i64 0] W fun x w' => x = .returned (.bool true) ∧ Below W.heap.size W w') := Lib.hid fun W hW => fails18 ⟨#[57, 50, 50, 51, 51, 55, 50, 48, 51, 54, 56, 53, 52, 55, 55, 53, 56, 48, 56]⟩ (by decide) true 41 0 (by decide) el_over W (EU W hW) (EE W hW)
  have HF4 : Hid (∀ W, Below w.heap.size w W → Calls Tryz.prog 26 #[.string ⟨#[91, 91, 91, 91, 91, 91, 91, 91, 91, 91, 91, 91, 91, 91, 91, 91, 91]⟩, .bool true, .int .i64 30, .int .i64 16] W fun x w' => x = .returned (.bool true) ∧ Below W.heap.size W w') := Lib.hid fun W hW => fails18 ⟨#[91, 91, 91, 91, 91, 91, 91, 91, 91, 91, 91, 91, 91, 91, 91, 91, 91]⟩ (by decide) true 30 16 (by decide) el_nest W (EU W hW) (EE W hW)
  have hx1 : lex0 (⟨#[91, 73, 110, 116, 33, 93]⟩ : ByteArray).data.toList = .ok (lexT exTyp) := lexT_ok exTyp (fun e => by have h := el_typ.1; rw [e] at h; cases h)
  obtain ⟨ok1, p1, m1, t1⟩ := lexed _ _ (by decide) hx1
  have HX1 : Hid (∀ W, Below w.heap.size w W → Calls Tryz.prog 21 #[.string ⟨#[91, 73, 110, 116, 33, 93]⟩] W fun e w' => (∃ g cap, e = .returned (.tuple #[.slice (some ⟨g, 0, none⟩) (lexT exTyp).length cap, .int .i64 0, .int .i64 0]) ∧ (lexT exTyp).length ≤ cap ∧ TokRow g 0 (lexT exTyp) w' ∧ g < w'.heap.size) ∧ Below W.heap.size W w') := Lib.hid fun W hW => lex_row18 ⟨#[91, 73, 110, 116, 33, 93]⟩ (by decide) _ hx1 p1 W (EU W hW)
  have hx2 : lex0 (⟨#[64, 97, 32, 64, 98, 40, 99, 58, 49, 41]⟩ : ByteArray).data.toList = .ok (lexT exDirs) := lexT_ok exDirs dirs_ex.1
  obtain ⟨ok2, p2, m2, t2⟩ := lexed _ _ (by decide) hx2
  have HX2 : Hid (∀ W, Below w.heap.size w W → Calls Tryz.prog 21 #[.string ⟨#[64, 97, 32, 64, 98, 40, 99, 58, 49, 41]⟩] W fun e w' => (∃ g cap, e = .returned (.tuple #[.slice (some ⟨g, 0, none⟩) (lexT exDirs).length cap, .int .i64 0, .int .i64 0]) ∧ (lexT exDirs).length ≤ cap ∧ TokRow g 0 (lexT exDirs) w' ∧ g < w'.heap.size) ∧ Below W.heap.size W w') := Lib.hid fun W hW => lex_row18 ⟨#[64, 97, 32, 64, 98, 40, 99, 58, 49, 41]⟩ (by decide) _ hx2 p2 W (EU W hW)
  have hx3 : lex0 (⟨#[40, 41]⟩ : ByteArray).data.toList = .ok (lexT exArgs) := lexT_ok exArgs args_ex.1
  obtain ⟨ok3, p3, m3, t3⟩ := lexed _ _ (by decide) hx3
  have HX3 : Hid (∀ W, Below w.heap.size w W → Calls Tryz.prog 21 #[.string ⟨#[40, 41]⟩] W fun e w' => (∃ g cap, e = .returned (.tuple #[.slice (some ⟨g, 0, none⟩) (lexT exArgs).length cap, .int .i64 0, .int .i64 0]) ∧ (lexT exArgs).length ≤ cap ∧ TokRow g 0 (lexT exArgs) w' ∧ g < w'.heap.size) ∧ Below W.heap.size W w') := Lib.hid fun W hW => lex_row18 ⟨#[40, 41]⟩ (by decide) _ hx3 p3 W (EU W hW)
  obtain ⟨ka, hty⟩ := typ_ex
  have HTY : Hid (∀ W g cap, Below w.heap.size w W → TokRow g 0 (lexT exTyp) W → g < W.heap.size → Calls Tryz.prog 22 #[.slice (some ⟨g, 0, none⟩) (lexT exTyp).length cap, .int .i64 0] W fun x w' => (∃ ua un uc, x = .returned (.tuple #[.agg #[.string ⟨#[73, 110, 116]⟩, .slice ua un uc], .int .i64 4, .int .i64 0]) ∧ Own W.heap.size (.slice ua un uc) [2, 1] w') ∧ Below W.heap.size W w') := Lib.hid fun W g cap hW hr hg => by
    refine (type_ok (cap := cap) (k := 0) W hr hg ⟨by omega, t1⟩ p1).mono ?_
    rintro x w' ⟨h1, h2⟩
    refine ⟨?_, h2⟩
    rw [hty] at h1
    obtain ⟨u, h3, h4⟩ := h1
    obtain ⟨ua, un, uc, rfl⟩ := h4.form
    exact ⟨ua, un, uc, h3, h4.1⟩
  have HDI : Hid (∀ W g cap, Below w.heap.size w W → TokRow g 0 (lexT exDirs) W → g < W.heap.size → Calls Tryz.prog 23 #[.slice (some ⟨g, 0, none⟩) (lexT exDirs).length cap, .int .i64 0, .bool true] W fun x w' => (∃ ua un uc, x = .returned (.tuple #[.slice ua un uc, .int .i64 9, .int .i64 0]) ∧ DirSl (.slice ua un uc) dirEx w') ∧ Below W.heap.size W w') := Lib.hid fun W g cap hW hr hg => by
    refine (dirs_ok (cap := cap) (k := 0) true W hr hg ⟨by omega, t2⟩ p2 (EE W hW)).mono ?_
    rintro x w' ⟨h1, h2⟩
    refine ⟨?_, h2⟩
    rw [dirs_ex.2] at h1
    obtain ⟨ua, un, uc, h3, h4⟩ := h1
    exact ⟨ua, un, uc, h3, OwnD.sl h4.2⟩
  have HAR : Hid (∀ W g cap, Below w.heap.size w W → TokRow g 0 (lexT exArgs) W → g < W.heap.size → Calls Tryz.prog 24 #[.slice (some ⟨g, 0, none⟩) (lexT exArgs).length cap, .int .i64 0, .bool true] W fun x w' => x = .returned (.tuple #[.slice none 0 0, .int .i64 1, .int .i64 180]) ∧ Below W.heap.size W w') := Lib.hid fun W g cap hW hr hg => by
    refine (args_ok (cap := cap) (k := 0) true W hr hg ⟨by omega, t3⟩ p3 (EE W hW)).mono ?_
    rintro x w' ⟨h1, h2⟩
    refine ⟨?_, h2⟩
    rw [args_ex.2] at h1
    exact h1
  have HVA : Hid (∀ W a cap, Calls Tryz.prog 25 #[.slice a (lexT exTyp).length cap, .int .i64 7, .bool true] W fun x w' => x = .returned (.tuple #[.slice none 0 0, .int .i64 0, .int .i64 2]) ∧ Below W.heap.size W w') := Lib.hid fun W a cap => value_arg a _ cap 7 true (by omega) (Or.inr (by rw [el_typ.1]; decide)) W
  generalize (lexT exTyp).length = n1 at HX1 HTY HVA
  generalize (lexT exDirs).length = n2 at HX2 HDI
  generalize (lexT exArgs).length = n3 at HX3 HAR
  clear hU hE hT EU EE hx1 hx2 hx3 ok1 ok2 ok3 p1 p2 p3 m1 m2 m3 t1 t2 t3 hty
  go_enter Tryz.func4, Tryz.ntmps4
  go_wp2_with fail
  refine (HX1.out w (Below.refl _ _)).mono ?_; rintro x w1 ⟨⟨g1, cap1, rfl, _, hr1, hg1⟩, hb⟩
  have HB1 := Lib.hid hb
  have HR1 := Lib.hid (And.intro hr1 hg1)
  clear hb hr1 hg1
  go_wp2_with fail
  refine (HTY.out w1 g1 cap1 HB1.out HR1.out.1 HR1.out.2).mono ?_; rintro x w2 ⟨⟨ua, un, uc, rfl, hu⟩, hb⟩
  have HB2 : Hid (Below w.heap.size w w2) := Lib.hid (HB1.out.trans (hb.mono HB1.out.size))
  have HU2 := Lib.hid hu
  clear hb hu
  go_upto_region 3 with fail
  obtain ⟨w3, hw3⟩ : ∃ w3, w2.alloc (.cells #[.string ⟨#[73, 110, 116]⟩, .slice ua un uc] 25) = w3 := ⟨_, rfl⟩
  have HB3 : Hid (Below w.heap.size w w3) := Lib.hid (by
    rw [← hw3]
    exact HB2.out.alloc HB2.out.size _)
  have HU3 : Hid (Own w1.heap.size (.slice ua un uc) [2, 1] w3) := Lib.hid (by
    have hb : Below w2.heap.size w2 w3 := by
      rw [← hw3]
      exact (Below.refl _ _).alloc (Nat.le_refl _) _
    exact HU2.out.below hb)
  have HZ3 : Hid (w3.heap[w2.heap.size]? = some (.cells #[.string ⟨#[73, 110, 116]⟩, .slice ua un uc] 25 (0, 0))) := Lib.hid (by
    rw [← hw3]
    exact heap_new _ _ _ rfl)
  obtain ⟨pz, hpz⟩ : ∃ pz, w2.heap.size = pz := ⟨_, rfl⟩
  obtain ⟨pu, hpu⟩ : ∃ pu, w1.heap.size = pu := ⟨_, rfl⟩
  rw [hpz] at HZ3
  rw [hpu] at HU3
  try rw [hw3]
  try rw [hpz]
  clear hw3 HU2 HB2 HB1 HR1 hpz hpu
  go_wp2_with fail
  refine (HX2.out w3 HB3.out).mono ?_; rintro x w4 ⟨⟨g2, cap2, rfl, _, hr, hg⟩, hb⟩
  have HB4 : Hid (Below w.heap.size w w4) := Lib.hid (HB3.out.trans (hb.mono HB3.out.size))
  have HU4 := Lib.hid (HU3.out.below hb)
  have HZ4 := Lib.hid ((hb.block pz (heap_lt HZ3.out)).trans HZ3.out)
  have HR4 := Lib.hid (And.intro hr hg)
  clear hr hg
  clear hb HB3 HU3 HZ3
  go_wp2_with fail
  refine (HDI.out w4 g2 cap2 HB4.out HR4.out.1 HR4.out.2).mono ?_; rintro x w5 ⟨⟨da, dn, dc, rfl, hd⟩, hb⟩
  have HB5 : Hid (Below w.heap.size w w5) := Lib.hid (HB4.out.trans (hb.mono HB4.out.size))
  have HU5 := Lib.hid (HU4.out.below hb)
  have HZ5 := Lib.hid ((hb.block pz (heap_lt HZ4.out)).trans HZ4.out)
  have HD5 := Lib.hid hd
  clear hd HR4
  clear hb HB4 HU4 HZ4
  go_wp2_with fail
  refine (HX3.out w5 HB5.out).mono ?_; rintro x w6 ⟨⟨g3, cap3, rfl, _, hr, hg⟩, hb⟩
  have HB6 : Hid (Below w.heap.size w w6) := Lib.hid (HB5.out.trans (hb.mono HB5.out.size))
  have HU6 := Lib.hid (HU5.out.below hb)
  have HZ6 := Lib.hid ((hb.block pz (heap_lt HZ5.out)).trans HZ5.out)
  have HD6 := Lib.hid (DirSl.below HD5.out hb)
  have HR6 := Lib.hid (And.intro hr hg)
  clear hr hg
  clear hb HB5 HU5 HZ5
  clear HD5
  go_wp2_with fail
  refine (HAR.out w6 g3 cap3 HB6.out HR6.out.1 HR6.out.2).mono ?_; rintro x w7 ⟨rfl, hb⟩
  have HB7 : Hid (Below w.heap.size w w7) := Lib.hid (HB6.out.trans (hb.mono HB6.out.size))
  have HU7 := Lib.hid (HU6.out.below hb)
  have HZ7 := Lib.hid ((hb.block pz (heap_lt HZ6.out)).trans HZ6.out)
  have HD7 := Lib.hid (DirSl.below HD6.out hb)
  clear HR6
  clear hb HB6 HU6 HZ6
  clear HD6
  go_wp2_with fail
  refine (HVA.out w7 _ _).mono ?_; rintro x w8 ⟨rfl, hb⟩
  have HB8 : Hid (Below w.heap.size w w8) := Lib.hid (HB7.out.trans (hb.mono HB7.out.size))
  have HU8 := Lib.hid (HU7.out.below hb)
  have HZ8 := Lib.hid ((hb.block pz (heap_lt HZ7.out)).trans HZ7.out)
  have HD8 := Lib.hid (DirSl.below HD7.out hb)
  clear hb HB7 HU7 HZ7
  clear HD7
  go_wp2_with fail
  refine (HF0.out w8 HB8.out).mono ?_; rintro x w9 ⟨rfl, hb⟩
  have HB9 : Hid (Below w.heap.size w w9) := Lib.hid (HB8.out.trans (hb.mono HB8.out.size))
  have HU9 := Lib.hid (HU8.out.below hb)
  have HZ9 := Lib.hid ((hb.block pz (heap_lt HZ8.out)).trans HZ8.out)
  have HD9 := Lib.hid (DirSl.below HD8.out hb)
  clear hb HB8 HU8 HZ8
  clear HD8
  go_wp2_with fail
  refine (HF1.out w9 HB9.out).mono ?_; rintro x w10 ⟨rfl, hb⟩
  have HB10 : Hid (Below w.heap.size w w10) := Lib.hid (HB9.out.trans (hb.mono HB9.out.size))
  have HU10 := Lib.hid (HU9.out.below hb)
  have HZ10 := Lib.hid ((hb.block pz (heap_lt HZ9.out)).trans HZ9.out)
  have HD10 := Lib.hid (DirSl.below HD9.out hb)
  clear hb HB9 HU9 HZ9
  clear HD9
  go_wp2_with fail
  refine (HF2.out w10 HB10.out).mono ?_; rintro x w11 ⟨rfl, hb⟩
  have HB11 : Hid (Below w.heap.size w w11) := Lib.hid (HB10.out.trans (hb.mono HB10.out.size))
  have HU11 := Lib.hid (HU10.out.below hb)
  have HZ11 := Lib.hid ((hb.block pz (heap_lt HZ10.out)).trans HZ10.out)
  have HD11 := Lib.hid (DirSl.below HD10.out hb)
  clear hb HB10 HU10 HZ10
  clear HD10
  go_wp2_with fail
  refine (HF3.out w11 HB11.out).mono ?_; rintro x w12 ⟨rfl, hb⟩
  have HB12 : Hid (Below w.heap.size w w12) := Lib.hid (HB11.out.trans (hb.mono HB11.out.size))
  have HU12 := Lib.hid (HU11.out.below hb)
  have HZ12 := Lib.hid ((hb.block pz (heap_lt HZ11.out)).trans HZ11.out)
  have HD12 := Lib.hid (DirSl.below HD11.out hb)
  clear hb HB11 HU11 HZ11
  clear HD11
  go_wp2_with fail
  refine (HF4.out w12 HB12.out).mono ?_; rintro x w13 ⟨rfl, hb⟩
  have HB13 : Hid (Below w.heap.size w w13) := Lib.hid (HB12.out.trans (hb.mono HB12.out.size))
  have HU13 := Lib.hid (HU12.out.below hb)
  have HZ13 := Lib.hid ((hb.block pz (heap_lt HZ12.out)).trans HZ12.out)
  have HD13 := Lib.hid (DirSl.below HD12.out hb)
  clear hb HB12 HU12 HZ12
  clear HD12
  obtain ⟨d0, d1, _, _⟩ := ref_cells HZ13.out
  have HST : Hid (Calls Tryz.prog 27 #[.agg #[.string ⟨#[73, 110, 116]⟩, .slice ua un uc], .agg #[.string ⟨#[73, 110, 116]⟩, .slice (some ⟨w13.heap.size, 0, none⟩) 2 2]] (w13.alloc (.cells #[.int .u8 2, .int .u8 1] 5)) fun e w' => e = .returned (.bool true) ∧ Below (w13.alloc (.cells #[.int .u8 2, .int .u8 1] 5)).heap.size (w13.alloc (.cells #[.int .u8 2, .int .u8 1] 5)) w') := Lib.hid (sametype_yes _ ua _ un uc 2 2 [2, 1] pu w13.heap.size _ (HU13.out.below ((Below.refl _ _).alloc (Nat.le_refl _) _)) (Own.fresh (k := 2) rfl rfl (by decide) w13))
  go_wp2_with fail
  refine HST.out.mono ?_; rintro x w14 ⟨rfl, hb⟩
  have hb2 : Below w13.heap.size w13 w14 := ((Below.refl _ _).alloc (Nat.le_refl _) _).trans (hb.mono (by simp))
  have HB14 : Hid (Below w.heap.size w w14) := Lib.hid (HB13.out.trans (hb2.mono HB13.out.size))
  have HD14 := Lib.hid (DirSl.below HD13.out hb2)
  clear hb hb2 HB13 HU13 HZ13 HD13 d0 d1 HST
  have HSD : Hid (∀ V, Below w14.heap.size w14 V → DirSl (.slice (some ⟨w14.heap.size + 1 + 1, 0, none⟩) 2 2) dirEx V → Calls Tryz.prog 28 #[.slice da dn dc, .slice (some ⟨w14.heap.size + 1 + 1, 0, none⟩) 2 2] V fun e w' => e = .returned (.bool true) ∧ Below V.heap.size V w') := Lib.hid fun V hV h => samedirs_self dirEx (by decide) (by decide) _ _ V (DirSl.below HD14.out hV) h
  go_wp2_with fail
  refine (HSD.out _ ((((Below.refl _ _).alloc (Nat.le_refl _) _).alloc (by simp) _).alloc (by simp; omega) _) (dir_ex_sl w14)).mono ?_; rintro x w15 ⟨rfl, hb⟩
  have hb2 : Below w14.heap.size w14 w15 := ((((Below.refl _ _).alloc (Nat.le_refl _) _).alloc (by simp) _).alloc (by simp; omega) _).trans (hb.mono (by simp; omega))
  have HB15 : Hid (Below w.heap.size w w15) := Lib.hid (HB14.out.trans (hb2.mono HB14.out.size))
  clear hb hb2 HB14 HD14 HSD
  go_wp2_with fail
  refine (HAL.out w15 HB15.out).mono ?_; rintro x w16 ⟨rfl, hb⟩
  have HB16 : Hid (Below w.heap.size w w16) := Lib.hid (HB15.out.trans (hb.mono HB15.out.size))
  clear hb HB15
  go_wp2_with fail
  go_ret
  exact ⟨rfl, HB16.out⟩
end Go.Proofs.YtgaknbnhmoddcaaGreatDoor
namespace Go.Proofs.YtgaknbnhmoddcaaGreatDoor
open Go.RowKit Go.WideShapes Go.ChangeShapes
section
variable {H : Type} {enc : TypeId × Value → H} {P : Program}
/-- What 'post_of_same' asks of all addresses is asked here of the old blocks alone. -/
theorem post_below {f : Func} {s : ChangeSpec} {apart fresh handsOn again : Bool} {W W' : World} {args : Array Value} {v : Value} {ds gs : List (DataW H)} {before pa pv : List MemPlace}
    (hW : DataW.Whole enc P f.params.toList s.vars apart W args.toList ds gs before)
    (hres : ∀ (b : Nat) (sp : Nat → Bool) (hd : Bool), DataW.TrodAll enc P W' b sp hd f.resultTypes.toList (v.resultList f.resultTypes.size) (s.fn H (ds ++ gs)).results [])
    (hargs : ∀ sp : Nat → Bool, (∀ p ∈ before, sp p.block = true) → DataW.TrodAll enc P W' 0 sp true f.params.toList args.toList (s.fn H (ds ++ gs)).args pa)
    (hvars : ∀ sp : Nat → Bool, (∀ p ∈ before, sp p.block = true) → DataW.TrodVars enc P W' sp s.vars (s.fn H (ds ++ gs)).vars pv)
    (hps : before = pa ++ pv) (hb : Below W.heap.size W W')
    (hok : ∀ (j : Nat) (t : TypeId) (r : Value), f.resultTypes[j]? = some t → (v.resultList f.resultTypes.size)[j]? = some r → Value.okWide P W' .any 0 t r) :
    s.post enc P f apart fresh handsOn again W args v W' := by
  have old : ∀ p ∈ before, decide (p.block < W.heap.size) = true := fun p hp => decide_eq_true (hW.lt p hp)
  subst hps
  refine ⟨ds, gs, pa ++ pv, [], pa, pv, hW, hres _ _ _, hargs _ old, hvars _ old, World.keptBut_mono (fun p hp => ⟨hp, ?_⟩) (hb.frame (· ∈ pa ++ pv)), fun _ => ?_⟩
  · exact .inr (List.mem_append.1 hp)
  · obtain ⟨_, _, _, _, _, hz, hn⟩ := hW
    refine ⟨hok, _, _, ([] ++ pa) ++ pv, ⟨[] ++ pa, pv, trodAll_append (hargs _ (fun _ _ => rfl)) (hres _ _ _), hvars _ (fun _ _ => rfl), rfl, ?_, ?_⟩, ?_⟩
    · intro b off hp
      have hin : MemPlace.cell b off ∈ pa ++ pv := by simpa using hp
      rw [hb.frozen (of_decide_eq_true (old _ hin))]
      exact hz b off hin
    · intro ha
      simpa using hn ha
    · intro p hp _
      simpa using hp
end
end Go.Proofs.YtgaknbnhmoddcaaGreatDoor
