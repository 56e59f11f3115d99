/- doc.Same: equality. -/
import Derived.Test.YtbejhdhhkpllfaaGreatDoorXd
set_option linter.unusedSimpArgs false
set_option linter.unusedVariables false
namespace Go.Proofs.YtbejhdhhkpllfaaGreatDoor
open Go.RowKit
set_option maxRecDepth 100000 in
set_option maxHeartbeats 4000000 in
theorem dsame_go (oa fa ob fb : Option Addr) (on_ oc fn_ fc om pc fm qc : Nat) (tA tB : Bool) (w : World)
    (HA : Hid (∀ (W : World) (bv bv1 : Nat), Below w.heap.size w W → W.cell? ⟨bv, 0, none⟩ = some (.func (.func 20) #[] #[]) → W.cell? ⟨bv1, 0, none⟩ = some (.func (.func 17) #[] #[]) → Calls Tryz.prog 27 #[.slice oa on_ oc, .slice ob om pc, .func (.func 23) #[] #[.pointer (some ⟨bv, 0, none⟩), .pointer (some ⟨bv1, 0, none⟩)]] W fun e w' => e = .returned (.bool tA) ∧ Below W.heap.size W w'))
    (HB : Hid (∀ (W : World) (bv1 : Nat), Below w.heap.size w W → W.cell? ⟨bv1, 0, none⟩ = some (.func (.func 17) #[] #[]) → Calls Tryz.prog 28 #[.slice fa fn_ fc, .slice fb fm qc, .func (.func 26) #[] #[.pointer (some ⟨bv1, 0, none⟩)]] W fun e w' => e = .returned (.bool tB) ∧ Below W.heap.size W w')) :
    Calls Tryz.prog 7 #[.agg #[.slice oa on_ oc, .slice fa fn_ fc], .agg #[.slice ob om pc, .slice fb fm qc]] w fun e w' => e = .returned (.bool (tA && tB)) ∧ Below w.heap.size w w' := by
  go_enter Tryz.func7, Tryz.ntmps7
  go_upto_region 3 with fail
  obtain ⟨w2, hw2⟩ : ∃ w2, (((w.alloc (.cells #[.slice oa on_ oc, .slice fa fn_ fc] 25 (0, 0))).alloc (.cells #[.slice ob om pc, .slice fb fm qc] 25 (0, 0))).alloc (.cells #[.func (.func 17) #[] #[]] 55 (0, 0))).alloc (.cells #[.func (.func 20) #[] #[]] 60 (0, 0)) = w2 := ⟨_, rfl⟩
  have HB2 : Hid (Below w.heap.size w w2) := Lib.hid (by rw [← hw2]; exact ((((Below.refl _ _).alloc (Nat.le_refl _) _).alloc (by simp) _).alloc (by simp; omega) _).alloc (by simp; omega) _)
  have k0 : w2.heap[w.heap.size]? = some (.cells #[.slice oa on_ oc, .slice fa fn_ fc] 25 (0, 0)) := by rw [← hw2]; exact heap_old (heap_old (heap_old (heap_new _ _ _ rfl)))
  have k1 : w2.heap[w.heap.size + 1]? = some (.cells #[.slice ob om pc, .slice fb fm qc] 25 (0, 0)) := by rw [← hw2]; exact heap_old (heap_old (heap_new _ _ _ (by simp)))
  have k2 : w2.heap[w.heap.size + 1 + 1]? = some (.cells #[.func (.func 17) #[] #[]] 55 (0, 0)) := by rw [← hw2]; exact heap_old (heap_new _ _ _ (by simp))
  have k3 : w2.heap[w.heap.size + 1 + 1 + 1]? = some (.cells #[.func (.func 20) #[] #[]] 60 (0, 0)) := by rw [← hw2]; exact heap_new _ _ _ (by simp)
  try rw [hw2]
  obtain ⟨da, hda⟩ : ∃ x, w.heap.size = x := ⟨_, rfl⟩
  obtain ⟨db, hdb⟩ : ∃ x, w.heap.size + 1 = x := ⟨_, rfl⟩
  obtain ⟨sb, hsb⟩ : ∃ x, w.heap.size + 1 + 1 = x := ⟨_, rfl⟩
  obtain ⟨vb, hvb⟩ : ∃ x, w.heap.size + 1 + 1 + 1 = x := ⟨_, rfl⟩
  rw [hvb] at k3
  rw [hsb] at k2
  rw [hdb] at k1
  rw [hda] at k0
  try rw [hvb]
  try rw [hsb]
  try rw [hdb]
  try rw [hda]
  have MK : Hid (∀ W, Below w2.heap.size w2 W → W.cell? ⟨da, 0, none⟩ = some (.slice oa on_ oc) ∧ W.cell? ⟨da, 1, none⟩ = some (.slice fa fn_ fc) ∧ W.cell? ⟨db, 0, none⟩ = some (.slice ob om pc) ∧ W.cell? ⟨db, 1, none⟩ = some (.slice fb fm qc) ∧ W.cell? ⟨sb, 0, none⟩ = some (.func (.func 17) #[] #[]) ∧ W.cell? ⟨vb, 0, none⟩ = some (.func (.func 20) #[] #[])) := Lib.hid fun W hW => ⟨(Lib.cell_of_heap ((hW.block _ (heap_lt k0)).trans k0) 0).trans rfl, (Lib.cell_of_heap ((hW.block _ (heap_lt k0)).trans k0) 1).trans rfl, (Lib.cell_of_heap ((hW.block _ (heap_lt k1)).trans k1) 0).trans rfl, (Lib.cell_of_heap ((hW.block _ (heap_lt k1)).trans k1) 1).trans rfl, (Lib.cell_of_heap ((hW.block _ (heap_lt k2)).trans k2) 0).trans rfl, (Lib.cell_of_heap ((hW.block _ (heap_lt k3)).trans k3) 0).trans rfl⟩
  obtain ⟨d0, d1, d2, d3, d4, d5⟩ := MK.out w2 (Below.refl _ _)
  have HAC := Lib.hid (HA.out w2 vb sb HB2.out d5 d4)
  clear hw2 k0 k1 k2 k3 hda hdb hsb hvb HA
  cases tA with
  | false =>
    go_wp2_with fail
    refine HAC.out.mono ?_; rintro e w5 ⟨rfl, hb⟩
    have HBN := Lib.hid (HB2.out.trans (hb.mono HB2.out.size))
    clear hb
    go_wp2_with fail
    go_ret
    exact ⟨rfl, HBN.out⟩
  | true =>
    go_wp2_with fail
    refine HAC.out.mono ?_; rintro e w5 ⟨rfl, hb⟩
    have HBN := Lib.hid (HB2.out.trans (hb.mono HB2.out.size))
    obtain ⟨d0, d1, d2, d3, d4, d5⟩ := MK.out w5 hb
    have HBC := Lib.hid (HB.out w5 sb HBN.out d4)
    clear hb
    go_wp2_with fail
    refine HBC.out.mono ?_; rintro e w6 ⟨rfl, hb⟩
    have HBM := Lib.hid (HBN.out.trans (hb.mono HBN.out.size))
    clear hb
    go_wp2_with fail
    go_ret
    exact ⟨rfl, HBM.out⟩
theorem dsame_any (x y : DocD) (u v : Value) (w : World) (hu : DocV u x w) (hv : DocV v y w) (sx : DocSm x) (sy : DocSm y) :
    Calls Tryz.prog 7 #[u, v] w fun e w' => e = .returned (.bool (eqB x y)) ∧ Below w.heap.size w w' := by
  obtain ⟨_, _, _, _, _, _, rfl, h1, h2⟩ := hu
  obtain ⟨_, _, _, _, _, _, rfl, k1, k2⟩ := hv
  rw [eqB_doc]
  refine dsame_go _ _ _ _ _ _ _ _ _ _ _ _ (eqB x.ops y.ops) (eqB x.frags y.frags) w ?_ ?_
  · exact Lib.hid fun W bv bv1 hW c1 c2 => opr_eqf _ #[.pointer (some ⟨bv, 0, none⟩), .pointer (some ⟨bv1, 0, none⟩)] dop_ent x.ops y.ops _ _ sx.1.1 sy.1.1 W (OprSl.below h1 hW) (OprSl.below k1 hW) (Lib.hid fun W' k hk hk' u v hu hv hb => dop_any bv bv1 _ _ u v W' ((hb.cell (p := ⟨_, _, none⟩) (lt_of_cell c1)).trans c1) ((hb.cell (p := ⟨_, _, none⟩) (lt_of_cell c2)).trans c2) hu hv (sx.1.2 _ (List.getElem_mem hk)) (sy.1.2 _ (List.getElem_mem hk')))
  · exact Lib.hid fun W bv1 hW c2 => frg_eqf _ #[.pointer (some ⟨bv1, 0, none⟩)] dfr_ent x.frags y.frags _ _ sx.2.1 sy.2.1 W (FrgSl.below h2 hW) (FrgSl.below k2 hW) (Lib.hid fun W' k hk hk' u v hu hv hb => dfr_any bv1 _ _ u v W' ((hb.cell (p := ⟨_, _, none⟩) (lt_of_cell c2)).trans c2) hu hv (sx.2.2 _ (List.getElem_mem hk)) (sy.2.2 _ (List.getElem_mem hk')))
end Go.Proofs.YtbejhdhhkpllfaaGreatDoor
