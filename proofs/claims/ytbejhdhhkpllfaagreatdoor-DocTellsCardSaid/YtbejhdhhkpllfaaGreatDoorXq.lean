/- The law DocTells: walked whole. -/
import Derived.Test.YtbejhdhhkpllfaaGreatDoorXp
import Derived.Test.YtbejhdhhkpllfaaGreatDoorXm
import Derived.Test.YtbejhdhhkpllfaaGreatDoorXn
import Derived.Test.YtbejhdhhkpllfaaGreatDoorXo
set_option linter.unusedSimpArgs false
set_option linter.unusedVariables false
namespace Go.Proofs.YtbejhdhhkpllfaaGreatDoor
open Go.RowKit
set_option maxRecDepth 100000 in
set_option maxHeartbeats 8000000 in
theorem dt_go (oa fa ob fb : Option Addr) (on_ oc fn_ fc om pc fm qc : Nat) (P1 P2 : Prop) (q : Int) (r : Bool) (w : World)
    (G1 : Hid (∀ W, Below w.heap.size w W → Calls Tryz.prog 4 #[.agg #[.slice oa on_ oc, .slice fa fn_ fc]] W (GreatR P1 W)))
    (G2 : Hid (∀ W, Below w.heap.size w W → Calls Tryz.prog 4 #[.agg #[.slice ob om pc, .slice fb fm qc]] W (GreatR P2 W)))
    (C1 : Hid (P1 → P2 → ∀ W, Below w.heap.size w W → Calls Tryz.prog 5 #[.agg #[.slice oa on_ oc, .slice fa fn_ fc]] W fun e w' => e = .returned (.int .i64 q) ∧ Below W.heap.size W w'))
    (C2 : Hid (P1 → P2 → ∀ W, Below w.heap.size w W → Calls Tryz.prog 6 #[.agg #[.slice oa on_ oc, .slice fa fn_ fc]] W fun e w' => e = .returned (.int .i64 q) ∧ Below W.heap.size W w'))
    (C3 : Hid (P1 → P2 → ∀ W, Below w.heap.size w W → Calls Tryz.prog 7 #[.agg #[.slice oa on_ oc, .slice fa fn_ fc], .agg #[.slice ob om pc, .slice fb fm qc]] W fun e w' => e = .returned (.bool r) ∧ Below W.heap.size W w'))
    (C4 : Hid (P1 → P2 → ∀ W, Below w.heap.size w W → Calls Tryz.prog 8 #[.agg #[.slice oa on_ oc, .slice fa fn_ fc], .agg #[.slice ob om pc, .slice fb fm qc]] W fun e w' => e = .returned (.bool r) ∧ Below W.heap.size W w'))
    (C5 : Hid (P1 → P2 → ∀ W, Below w.heap.size w W → Calls Tryz.prog 7 #[.agg #[.slice oa on_ oc, .slice fa fn_ fc], .agg #[.slice oa on_ oc, .slice fa fn_ fc]] W fun e w' => e = .returned (.bool true) ∧ Below W.heap.size W w')) :
    Calls Tryz.prog 3 #[.agg #[.slice oa on_ oc, .slice fa fn_ fc], .agg #[.slice ob om pc, .slice fb fm qc]] w fun e w' => e = .returned (.bool true) ∧ Below w.heap.size w w' := by
  go_enter Tryz.func3, Tryz.ntmps3
  go_upto_region 1 with fail
  obtain ⟨w1, hw1⟩ : ∃ w1, (w.alloc (.cells #[.slice oa on_ oc, .slice fa fn_ fc] 25 (0, 0))).alloc (.cells #[.slice ob om pc, .slice fb fm qc] 25 (0, 0)) = w1 := ⟨_, rfl⟩
  have HBD : Hid (Below w.heap.size w w1) := Lib.hid (by rw [← hw1]; exact ((Below.refl _ _).alloc (Nat.le_refl _) _).alloc (by simp) _)
  have k0 : w1.heap[w.heap.size]? = some (.cells #[.slice oa on_ oc, .slice fa fn_ fc] 25 (0, 0)) := by rw [← hw1]; exact heap_old (heap_new _ _ _ rfl)
  have k1 : w1.heap[w.heap.size + 1]? = some (.cells #[.slice ob om pc, .slice fb fm qc] 25 (0, 0)) := by rw [← hw1]; exact heap_new _ _ _ (by simp)
  try rw [hw1]
  obtain ⟨da, hda⟩ : ∃ x, w.heap.size = x := ⟨_, rfl⟩
  obtain ⟨db, hdb⟩ : ∃ x, w.heap.size + 1 = x := ⟨_, rfl⟩
  rw [hdb] at k1
  rw [hda] at k0
  try rw [hdb]
  try rw [hda]
  have MD : Hid (∀ W, Below w1.heap.size w1 W → (fun W => Below w1.heap.size w1 W ∧ W.cell? ⟨da, 0, none⟩ = some (.slice oa on_ oc) ∧ W.cell? ⟨da, 1, none⟩ = some (.slice fa fn_ fc) ∧ W.cell? ⟨db, 0, none⟩ = some (.slice ob om pc) ∧ W.cell? ⟨db, 1, none⟩ = some (.slice fb fm qc)) W) := Lib.hid fun W hW => ⟨hW, (Lib.cell_of_heap ((hW.block _ (heap_lt k0)).trans k0) 0).trans rfl, (Lib.cell_of_heap ((hW.block _ (heap_lt k0)).trans k0) 1).trans rfl, (Lib.cell_of_heap ((hW.block _ (heap_lt k1)).trans k1) 0).trans rfl, (Lib.cell_of_heap ((hW.block _ (heap_lt k1)).trans k1) 1).trans rfl⟩
  obtain ⟨_, g0, g1, g2, g3⟩ := MD.out w1 (Below.refl _ _)
  clear hw1 k0 k1 hda hdb
  go_wp2_with fail
  refine (G1.out _ HBD.out).mono ?_; rintro e w2 ⟨t1, rfl, hg1, hb⟩
  have HB2 := Lib.hid hb
  have HG1 := Lib.hid hg1
  obtain ⟨_, g0, g1, g2, g3⟩ := MD.out w2 hb
  clear hg1 hb
  cases t1 with
  | true =>
    go_wp2_with fail
    go_ret
    exact ⟨rfl, HBD.out.trans (HB2.out.mono HBD.out.size)⟩
  | false =>
  go_wp2_with fail
  refine (G2.out _ (HBD.out.trans (HB2.out.mono HBD.out.size))).mono ?_; rintro e w3 ⟨t2, rfl, hg2, hb⟩
  have HB3 : Hid (Below w1.heap.size w1 w3) := Lib.hid (HB2.out.trans (hb.mono HB2.out.size))
  have HG2 := Lib.hid hg2
  obtain ⟨_, g0, g1, g2, g3⟩ := MD.out w3 HB3.out
  clear hg2 hb
  cases t2 with
  | true =>
    go_wp2_with fail
    go_ret
    exact ⟨rfl, HBD.out.trans (HB3.out.mono HBD.out.size)⟩
  | false =>
  have D1 := Lib.hid (C1.out (HG1.out (by first | exact rfl | trivial)) (HG2.out (by first | exact rfl | trivial)))
  have D2 := Lib.hid (C2.out (HG1.out (by first | exact rfl | trivial)) (HG2.out (by first | exact rfl | trivial)))
  have D3 := Lib.hid (C3.out (HG1.out (by first | exact rfl | trivial)) (HG2.out (by first | exact rfl | trivial)))
  have D4 := Lib.hid (C4.out (HG1.out (by first | exact rfl | trivial)) (HG2.out (by first | exact rfl | trivial)))
  have D5 := Lib.hid (C5.out (HG1.out (by first | exact rfl | trivial)) (HG2.out (by first | exact rfl | trivial)))
  clear C1 C2 C3 C4 C5 g0 g1 g2 g3
  go_wp2_with fail
  refine wp_region_held_drew (S := fun W => Below w1.heap.size w1 W ∧ W.cell? ⟨da, 0, none⟩ = some (.slice oa on_ oc) ∧ W.cell? ⟨da, 1, none⟩ = some (.slice fa fn_ fc) ∧ W.cell? ⟨db, 0, none⟩ = some (.slice ob om pc) ∧ W.cell? ⟨db, 1, none⟩ = some (.slice fb fm qc)) (by kernel_rfl) (MD.out _ (HB3.out.trans ⟨rfl, rfl, rfl, Nat.le_refl _, fun _ _ => rfl⟩)) (fun hHeld => ?_)
  refine tky 0 (some 11) (v := ?_) rfl (by kernel_rfl) (by kernel_rfl) (by kernel_rfl) (fun _ _ _ h => h) ?_ hHeld ?_
  rotate_left
  focus (intro w hSw; (try dsimp only at hSw); go_simp; (try with_reducible rfl); done)
  simp only [Act.put, List.setIfInBounds_toArray, List.set_cons_zero, List.set_cons_succ]
  refine tky 2 (some 13) (v := ?_) rfl (by kernel_rfl) (by kernel_rfl) (by kernel_rfl) (fun _ _ _ h => h) ?_ hHeld ?_
  rotate_left
  focus (intro w hSw; (try dsimp only at hSw); go_simp; (try with_reducible rfl); done)
  simp only [Act.put, List.setIfInBounds_toArray, List.set_cons_zero, List.set_cons_succ]
  refine rcons 1 rfl (by kernel_rfl) (fun K hK => ?_)
  go_simp
  refine (D1.out _ (HBD.out.trans (hHeld.1.mono HBD.out.size))).mono ?_; rintro e w5 ⟨rfl, hb⟩
  (try dsimp only)
  refine hK.out _ _ (MD.out _ (hHeld.1.trans (hb.mono hHeld.1.size))) (fun hHeld2 => ?_)
  clear hK K hHeld
  have hHeld := hHeld2
  clear hHeld2
  (try simp only [Act.put, List.setIfInBounds_toArray, List.set_cons_zero, List.set_cons_succ])
  refine rcons 3 rfl (by kernel_rfl) (fun K hK => ?_)
  go_simp
  refine (D2.out _ (HBD.out.trans (hHeld.1.mono HBD.out.size))).mono ?_; rintro e w5 ⟨rfl, hb⟩
  (try dsimp only)
  refine hK.out _ _ (MD.out _ (hHeld.1.trans (hb.mono hHeld.1.size))) (fun hHeld2 => ?_)
  clear hK K hHeld
  have hHeld := hHeld2
  clear hHeld2
  (try simp only [Act.put, List.setIfInBounds_toArray, List.set_cons_zero, List.set_cons_succ])
  refine tky 4 (some 15) (v := ?_) rfl (by kernel_rfl) (by kernel_rfl) (by kernel_rfl) (fun _ _ _ h => h) ?_ hHeld ?_
  rotate_left
  focus (intro w hSw; (try dsimp only at hSw); go_simp; (try with_reducible rfl); done)
  simp only [Act.put, List.setIfInBounds_toArray, List.set_cons_zero, List.set_cons_succ]
  refine tky 5 (some 16) (v := ?_) rfl (by kernel_rfl) (by kernel_rfl) (by kernel_rfl) (fun _ _ _ h => h) ?_ hHeld ?_
  rotate_left
  focus (intro w hSw; (try dsimp only at hSw); go_simp; (try with_reducible rfl); done)
  simp only [Act.put, List.setIfInBounds_toArray, List.set_cons_zero, List.set_cons_succ]
  refine tky 6 (some 17) (v := ?_) rfl (by kernel_rfl) (by kernel_rfl) (by kernel_rfl) (fun _ _ _ h => h) ?_ hHeld ?_
  rotate_left
  focus (intro w hSw; (try dsimp only at hSw); go_simp; (try with_reducible rfl); done)
  simp only [Act.put, List.setIfInBounds_toArray, List.set_cons_zero, List.set_cons_succ]
  refine tky 7 (some 18) (v := ?_) rfl (by kernel_rfl) (by kernel_rfl) (by kernel_rfl) (fun _ _ _ h => h) ?_ hHeld ?_
  rotate_left
  focus (intro w hSw; (try dsimp only at hSw); go_simp; (try with_reducible rfl); done)
  simp only [Act.put, List.setIfInBounds_toArray, List.set_cons_zero, List.set_cons_succ]
  refine tky 9 (some 20) (v := ?_) rfl (by kernel_rfl) (by kernel_rfl) (by kernel_rfl) (fun _ _ _ h => h) ?_ hHeld ?_
  rotate_left
  focus (intro w hSw; (try dsimp only at hSw); go_simp; (try with_reducible rfl); done)
  simp only [Act.put, List.setIfInBounds_toArray, List.set_cons_zero, List.set_cons_succ]
  refine tky 10 (some 21) (v := ?_) rfl (by kernel_rfl) (by kernel_rfl) (by kernel_rfl) (fun _ _ _ h => h) ?_ hHeld ?_
  rotate_left
  focus (intro w hSw; (try dsimp only at hSw); go_simp; (try with_reducible rfl); done)
  simp only [Act.put, List.setIfInBounds_toArray, List.set_cons_zero, List.set_cons_succ]
  refine rcons 8 rfl (by kernel_rfl) (fun K hK => ?_)
  go_simp
  refine (D3.out _ (HBD.out.trans (hHeld.1.mono HBD.out.size))).mono ?_; rintro e w5 ⟨rfl, hb⟩
  (try dsimp only)
  refine hK.out _ _ (MD.out _ (hHeld.1.trans (hb.mono hHeld.1.size))) (fun hHeld2 => ?_)
  clear hK K hHeld
  have hHeld := hHeld2
  clear hHeld2
  (try simp only [Act.put, List.setIfInBounds_toArray, List.set_cons_zero, List.set_cons_succ])
  refine rcons 11 rfl (by kernel_rfl) (fun K hK => ?_)
  go_simp
  refine (D4.out _ (HBD.out.trans (hHeld.1.mono HBD.out.size))).mono ?_; rintro e w5 ⟨rfl, hb⟩
  (try dsimp only)
  refine hK.out _ _ (MD.out _ (hHeld.1.trans (hb.mono hHeld.1.size))) (fun hHeld2 => ?_)
  clear hK K hHeld
  have hHeld := hHeld2
  clear hHeld2
  (try simp only [Act.put, List.setIfInBounds_toArray, List.set_cons_zero, List.set_cons_succ])
  refine tky 12 (some 23) (v := ?_) rfl (by kernel_rfl) (by kernel_rfl) (by kernel_rfl) (fun _ _ _ h => h) ?_ hHeld ?_
  rotate_left
  focus (intro w hSw; (try dsimp only at hSw); go_simp; (try with_reducible rfl); done)
  simp only [Act.put, List.setIfInBounds_toArray, List.set_cons_zero, List.set_cons_succ]
  refine tky 13 (some 24) (v := ?_) rfl (by kernel_rfl) (by kernel_rfl) (by kernel_rfl) (fun _ _ _ h => h) ?_ hHeld ?_
  rotate_left
  focus (intro w hSw; (try dsimp only at hSw); go_simp; (try with_reducible rfl); done)
  simp only [Act.put, List.setIfInBounds_toArray, List.set_cons_zero, List.set_cons_succ]
  refine tky 14 (some 25) (v := ?_) rfl (by kernel_rfl) (by kernel_rfl) (by kernel_rfl) (fun _ _ _ h => h) ?_ hHeld ?_
  rotate_left
  focus (intro w hSw; (try dsimp only at hSw); go_simp; (try with_reducible rfl); done)
  simp only [Act.put, List.setIfInBounds_toArray, List.set_cons_zero, List.set_cons_succ]
  refine tky 15 (some 26) (v := ?_) rfl (by kernel_rfl) (by kernel_rfl) (by kernel_rfl) (fun _ _ _ h => h) ?_ hHeld ?_
  rotate_left
  focus (intro w hSw; (try dsimp only at hSw); go_simp; (try with_reducible rfl); done)
  simp only [Act.put, List.setIfInBounds_toArray, List.set_cons_zero, List.set_cons_succ]
  refine tky 16 (some 27) (v := ?_) rfl (by kernel_rfl) (by kernel_rfl) (by kernel_rfl) (fun _ _ _ h => h) ?_ hHeld ?_
  rotate_left
  focus (intro w hSw; (try dsimp only at hSw); go_simp; (try with_reducible rfl); done)
  simp only [Act.put, List.setIfInBounds_toArray, List.set_cons_zero, List.set_cons_succ]
  refine rcons 17 rfl (by kernel_rfl) (fun K hK => ?_)
  go_simp
  refine (D5.out _ (HBD.out.trans (hHeld.1.mono HBD.out.size))).mono ?_; rintro e w5 ⟨rfl, hb⟩
  (try dsimp only)
  refine hK.out _ _ (MD.out _ (hHeld.1.trans (hb.mono hHeld.1.size))) (fun hHeld2 => ?_)
  clear hK K hHeld
  have hHeld := hHeld2
  clear hHeld2
  (try simp only [Act.put, List.setIfInBounds_toArray, List.set_cons_zero, List.set_cons_succ])
  refine tky 18 (some 29) (v := ?_) rfl (by kernel_rfl) (by kernel_rfl) (by kernel_rfl) (fun _ _ _ h => h) ?_ hHeld ?_
  rotate_left
  focus (intro w hSw; (try dsimp only at hSw); go_simp; (try with_reducible rfl); done)
  simp only [Act.put, List.setIfInBounds_toArray, List.set_cons_zero, List.set_cons_succ]
  refine tky 19 (some 4) (v := ?_) rfl (by kernel_rfl) (by kernel_rfl) (by kernel_rfl) (fun _ _ _ h => h) ?_ hHeld ?_
  rotate_left
  focus (intro w hSw; (try dsimp only at hSw); go_simp; (try with_reducible rfl); done)
  simp only [Act.put, List.setIfInBounds_toArray, List.set_cons_zero, List.set_cons_succ]
  refine wpAnyH_done (by kernel_rfl) ?_ _
  have HBN := Lib.hid (HBD.out.trans (hHeld.1.mono HBD.out.size))
  go_wp2_with fail
  go_ret
  exact ⟨ret_b (by simp), HBN.out⟩
/-! ### What is not great is small -/
theorem droomD_le : ∀ (D : List DirD), (∀ x ∈ D, greatAB x.2 = false) → roomD D ≤ 5000 * D.length
  | [], _ => by simp [roomD]
  | x :: r, h => by
    obtain ⟨h1, h3⟩ := greatAB_parts (h x (by simp))
    have h2 := droomD_le r fun y hy => h y (by simp [hy])
    have h4 := roomA_le x.2 fun y hy => (greatV_parts (h3 y hy).1).1
    rw [roomD, List.length_cons]
    omega
theorem dargs_small {A : List ArgD} (hA : ArgB A) (hg : greatAB A = false) : ArgsSm A := (args_sm hA hg).1
theorem ddirs_small {A : List DirD} (hA : DirsB A) (hg : greatDB A = false) : DirsSm A := by
  obtain ⟨h1, h2⟩ := greatDB_parts hg
  exact ⟨by omega, fun x hx => ⟨by have := (h2 x hx).2; omega, dargs_small (hA.2 x hx).2 (h2 x hx).1⟩⟩
theorem dcels_small {V : List Cel} (hV : CelB V) (hg : greatV V 60 = false) : SmallV V := by
  obtain ⟨p1, p2⟩ := greatV_parts hg
  refine ⟨by omega, fun c hc => ?_⟩
  obtain ⟨q1, q2⟩ := p2 c hc
  obtain ⟨_, _, q3, q4⟩ := hV.2 c hc
  exact ⟨by omega, by omega, q3, q4⟩
theorem mlx {n : Nat} (h : n ≤ maxLen) : n ≤ 9223372036854775807 := by unfold maxLen at h; omega
theorem dinps_small {L : List Inp} (hb : InpsB L) (hg : NGIs L) : InpsSm L := by
  refine ⟨by have := hg.1; omega, fun x hx => ?_⟩
  obtain ⟨a1, a2, a3, a4, a5⟩ := hb.2 x hx
  obtain ⟨c1, c2, c3⟩ := hg.2 x hx
  exact ⟨mlx a1, mlx a2, by omega, dcels_small a4 c1, ddirs_small a5 c2⟩
theorem dsels_small {L : List SelD} (hb : SelsB L) (hg : NGSs L) : SelsSm L ∧ ∀ x ∈ L, SelRm x := by
  have key : ∀ x ∈ L, SelRm x := fun x hx => by
    obtain ⟨a1, a2, a3, a4, a5⟩ := hb.2 x hx
    obtain ⟨c1, c2⟩ := hg.2 x hx
    have r1 := (args_sm a3 c1).2.1
    have r2 := droomD_le x.dirs fun y hy => ((greatDB_parts c2).2 y hy).1
    have r3 := (greatDB_parts c2).1
    exact ⟨⟨mlx a1, mlx a2, dargs_small a3 c1, ddirs_small a4 c2⟩, by omega, by omega, a5⟩
  exact ⟨⟨by have := hg.1; omega, fun x hx => (key x hx).1⟩, key⟩
theorem doprs_small {x : OpD} (hb : OprB x) (hg : NGO x) : OprRm x := by
  obtain ⟨a1, a2, a3, a4⟩ := hb
  obtain ⟨c1, c2, c3⟩ := hg
  have := dsels_small a4 c2
  exact ⟨⟨by omega, dinps_small a2 c1, this.1⟩, this.2, a3⟩
theorem dfrgs_small {x : FrgD} (hb : FrgB x) (hg : NGFr x) : FrgRm x := by
  obtain ⟨a1, a2, a3, a4⟩ := hb
  have := dsels_small a4 hg
  exact ⟨⟨mlx a1, mlx a2, this.1⟩, this.2, a3⟩
theorem ddoc_small {x : DocD} (hb : DocB x) (hg : NGDoc x) : (x.ops.length ≤ 100000 ∧ x.frags.length ≤ 100000) ∧ (∀ y ∈ x.ops, OprRm y) ∧ (∀ y ∈ x.frags, FrgRm y) ∧ DocSm x := by
  obtain ⟨c1, c2, c3, c4⟩ := hg
  have h1 : ∀ y ∈ x.ops, OprRm y := fun y hy => doprs_small (hb.1.2 y hy) (c3 y hy)
  have h2 : ∀ y ∈ x.frags, FrgRm y := fun y hy => dfrgs_small (hb.2.2 y hy) (c4 y hy)
  exact ⟨⟨by omega, by omega⟩, h1, h2, ⟨by omega, fun y hy => (h1 y hy).1⟩, ⟨by omega, fun y hy => (h2 y hy).1⟩⟩
theorem doctells_walk (x : DocD) (u : Value) (w : World) (su : DocV u x w) (lu : DocB x) (y : DocD) (v : Value) (sv : DocV v y w) (lv : DocB y) (hET : EnvU w ∧ EnvT w) :
    Calls Tryz.prog 3 #[u, v] w fun e w' => e = .returned (.bool true) ∧ Below w.heap.size w w' := by
  obtain ⟨hU, hT⟩ := hET
  have su0 := su
  have sv0 := sv
  obtain ⟨_, _, _, _, _, _, rfl, _, _⟩ := su
  obtain ⟨_, _, _, _, _, _, rfl, _, _⟩ := sv
  refine dt_go _ _ _ _ _ _ _ _ _ _ _ _ (NGDoc x) (NGDoc y) (cond (docB x) 0 8) (eqB x y) w ?_ ?_ ?_ ?_ ?_ ?_ ?_
  · exact Lib.hid fun W hW => gdoc_any x _ W (su0.below hW) lu
  · exact Lib.hid fun W hW => gdoc_any y _ W (sv0.below hW) lv
  · refine Lib.hid fun p1 p2 W hW => ?_
    obtain ⟨⟨a, b⟩, c, d, e⟩ := ddoc_small lu p1
    exact dcheck_any x _ W (su0.below hW) a b c d (hU.below hW) (hT.stays hW)
  · refine Lib.hid fun p1 p2 W hW => ?_
    obtain ⟨⟨a, b⟩, c, d, e⟩ := ddoc_small lu p1
    exact rdchk_any x _ W (su0.below hW) a b c d
  · exact Lib.hid fun p1 p2 W hW => dsame_any x y _ _ W (su0.below hW) (sv0.below hW) (ddoc_small lu p1).2.2.2 (ddoc_small lv p2).2.2.2
  · exact Lib.hid fun p1 p2 W hW => rsame_any x y _ _ W (su0.below hW) (sv0.below hW) (ddoc_small lu p1).2.2.2 (ddoc_small lv p2).2.2.2
  · refine Lib.hid fun p1 p2 W hW => ?_
    have := dsame_any x x _ _ W (su0.below hW) (su0.below hW) (ddoc_small lu p1).2.2.2 (ddoc_small lu p1).2.2.2
    rw [eqB_self] at this
    exact this
end Go.Proofs.YtbejhdhhkpllfaaGreatDoor
