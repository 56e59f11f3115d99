/- sdl's sameType, sameDirs, sameInputs, Same: equality. -/
import Derived.Test.YtgacpmdebjndkaaGreatDoorDe
import Derived.Test.YtgacpmdebjndkaaGreatDoorDf
import Derived.Test.YtgacpmdebjndkaaGreatDoorDh
set_option linter.unusedSimpArgs false
set_option linter.unusedVariables false
namespace Go.Proofs.YtgacpmdebjndkaaGreatDoor
open Go.RowKit
theorem sd1_ent : ∀ args w, (callFunc 54 args).run Tryz.prog w = .ok (.enter 54 args) w := enters_of Tryz.func54 (by kernel_rfl) rfl
theorem sd2_ent : ∀ args w, (callFunc 56 args).run Tryz.prog w = .ok (.enter 56 args) w := enters_of Tryz.func56 (by kernel_rfl) rfl
theorem si1_ent : ∀ args w, (callFunc 51 args).run Tryz.prog w = .ok (.enter 51 args) w := enters_of Tryz.func51 (by kernel_rfl) rfl
theorem sf1_ent : ∀ args w, (callFunc 24 args).run Tryz.prog w = .ok (.enter 24 args) w := enters_of Tryz.func24 (by kernel_rfl) rfl
theorem sm1_ent : ∀ args w, (callFunc 29 args).run Tryz.prog w = .ok (.enter 29 args) w := enters_of Tryz.func29 (by kernel_rfl) rfl
theorem sty_any (s t : List UInt8) (L M : List UInt8) (ua va : Option Addr) (un uc vn vc : Nat) (w : World) (hl : L.length ≤ 100000) (hm : M.length ≤ 100000) (h1 : BSl (.slice ua un uc) L w) (h2 : BSl (.slice va vn vc) M w) :
    Calls Tryz.prog 26 #[.agg #[.string ⟨s.toArray⟩, .slice ua un uc], .agg #[.string ⟨t.toArray⟩, .slice va vn vc]] w fun e w' => e = .returned (.bool (eqB s t && eqB L M)) ∧ Below w.heap.size w w' :=
  sty_c _ _ _ _ _ _ _ _ _ _ w (eqB_str s t) (Lib.hid fun W hW => equ8_any L M _ _ hl hm W (h1.below hW) (h2.below hW))
theorem sd1_any (x y : ArgD) (u v : Value) (w : World) (hu : ArgV u x w) (hv : ArgV v y w) (hx : ArgSm x) (hy : ArgSm y) :
    Calls Tryz.prog 54 #[u, v] w fun e w' => e = .returned (.bool (eqB x y)) ∧ Below w.heap.size w w' := by
  obtain ⟨_, _, _, rfl, h1⟩ := hu
  obtain ⟨_, _, _, rfl, h2⟩ := hv
  rw [eqB_pair]
  exact sd1_c _ _ _ _ _ _ _ _ _ _ w (eqB_str _ _) (Lib.hid fun W hW => eqcel_eq _ _ _ _ hx.2.1 hy.2.1 W (CelSl.below h1 hW) (CelSl.below h2 hW))
theorem sargs_any (L M : List ArgD) (u v : Value) (w : World) (h1 : ArgSl u L w) (h2 : ArgSl v M w) (s1 : ArgsSm L) (s2 : ArgsSm M) :
    Calls Tryz.prog 57 #[u, v, .func (.func 54) #[] #[]] w fun e w' => e = .returned (.bool (eqB L M)) ∧ Below w.heap.size w w' :=
  arg_eqf _ #[] sd1_ent L M u v s1.1 s2.1 w h1 h2 (Lib.hid fun W k hk hk' u v hu hv _ => sd1_any _ _ u v W hu hv (s1.2 _ (List.getElem_mem hk)) (s2.2 _ (List.getElem_mem hk')))
theorem sd2_any (bv : Nat) (x y : DirD) (u v : Value) (w : World) (hcap : w.cell? ⟨bv, 0, none⟩ = some (.func (.func 54) #[] #[])) (hu : DirV u x w) (hv : DirV v y w) (hx : DirSm x) (hy : DirSm y) :
    Calls Tryz.prog 56 #[u, v, .pointer (some ⟨bv, 0, none⟩)] w fun e w' => e = .returned (.bool (eqB x y)) ∧ Below w.heap.size w w' := by
  obtain ⟨_, _, _, rfl, h1⟩ := hu
  obtain ⟨_, _, _, rfl, h2⟩ := hv
  rw [eqB_pair]
  exact sd2_c _ _ _ _ _ _ _ _ bv _ _ w hcap (eqB_str _ _) (Lib.hid fun W hW => sargs_any _ _ _ _ W (ArgSl.below h1.1 hW) (ArgSl.below h2.1 hW) hx.2 hy.2)
set_option maxRecDepth 100000 in
theorem sdirs_any (L M : List DirD) (u v : Value) (w : World) (h1 : DirSlc u L w) (h2 : DirSlc v M w) (s1 : DirsSm L) (s2 : DirsSm M) :
    Calls Tryz.prog 27 #[u, v] w fun e w' => e = .returned (.bool (eqB L M)) ∧ Below w.heap.size w w' := by
  have HC : Hid (∀ (W : World) (bv : Nat), Below w.heap.size w W → W.cell? ⟨bv, 0, none⟩ = some (.func (.func 54) #[] #[]) → Calls Tryz.prog 55 #[u, v, .func (.func 56) #[] #[.pointer (some ⟨bv, 0, none⟩)]] W fun e w' => e = .returned (.bool (eqB L M)) ∧ Below W.heap.size W w') := Lib.hid fun W bv hW hc =>
    dir_eqf _ #[.pointer (some ⟨bv, 0, none⟩)] sd2_ent L M u v s1.1 s2.1 W (DirSlc.below h1 hW) (DirSlc.below h2 hW) (Lib.hid fun W' k hk hk' u v hu hv hb => sd2_any bv _ _ u v W' ((hb.cell (p := ⟨_, _, none⟩) (lt_of_cell hc)).trans hc) hu hv (s1.2 _ (List.getElem_mem hk)) (s2.2 _ (List.getElem_mem hk')))
  generalize eqB L M = r at *
  clear h1 h2 s1 s2
  go_enter Tryz.func27, Tryz.ntmps27
  go_upto_region 2 with fail
  obtain ⟨w2, hw2⟩ : ∃ w2, w.alloc (.cells #[.func (.func 54) #[] #[]] 83 (0, 0)) = w2 := ⟨_, rfl⟩
  have HB2 : Hid (Below w.heap.size w w2) := Lib.hid (by rw [← hw2]; exact (Below.refl _ _).alloc (Nat.le_refl _) _)
  have k1 : w2.heap[w.heap.size]? = some (.cells #[.func (.func 54) #[] #[]] 83 (0, 0)) := by rw [← hw2]; exact heap_new _ _ _ rfl
  have d0 : w2.cell? ⟨w.heap.size, 0, none⟩ = some (.func (.func 54) #[] #[]) := (Lib.cell_of_heap k1 0).trans rfl
  have HC2 := Lib.hid (HC.out w2 w.heap.size HB2.out d0)
  try rw [hw2]
  clear hw2 k1 d0 HC
  go_wp2_with fail
  refine HC2.out.mono ?_; rintro e w3 ⟨rfl, hb⟩
  have HB3 := Lib.hid (HB2.out.trans (hb.mono HB2.out.size))
  clear hb
  go_wp2_with fail
  go_ret
  exact ⟨rfl, HB3.out⟩
theorem si1_any (x y : Inp) (u v : Value) (w : World) (hu : InpV u x w) (hv : InpV v y w) (hx : InpSm x) (hy : InpSm y) :
    Calls Tryz.prog 51 #[u, v] w fun e w' => e = .returned (.bool (eqB x y)) ∧ Below w.heap.size w w' := by
  obtain ⟨_, _, _, _, _, _, _, _, _, rfl, h1, h2, h3⟩ := hu
  obtain ⟨_, _, _, _, _, _, _, _, _, rfl, k1, k2, k3⟩ := hv
  rw [eqB_inp]
  refine si_c _ _ _ _ _ _ _ _ _ _ _ _ _ _ _ _ _ _ _ _ _ _ _ _ _ _ _ _ _ w (eqB_str _ _) ?_ (eqB_bool _ _) ?_ ?_
  · exact Lib.hid fun W hW => sty_any _ _ _ _ _ _ _ _ _ _ W hx.2.2.1 hy.2.2.1 (h1.below hW) (k1.below hW)
  · exact Lib.hid fun W hW => eqcel_eq _ _ _ _ hx.2.2.2.1.1 hy.2.2.2.1.1 W (h2.below hW) (k2.below hW)
  · exact Lib.hid fun W hW => sdirs_any _ _ _ _ W (DirSlc.below h3 hW) (DirSlc.below k3 hW) hx.2.2.2.2 hy.2.2.2.2
set_option maxRecDepth 100000 in
theorem sinps_any (L M : List Inp) (u v : Value) (w : World) (h1 : InpSl u L w) (h2 : InpSl v M w) (s1 : InpsSm L) (s2 : InpsSm M) :
    Calls Tryz.prog 25 #[u, v] w fun e w' => e = .returned (.bool (eqB L M)) ∧ Below w.heap.size w w' := by
  have HC : Hid (Calls Tryz.prog 50 #[u, v, .func (.func 51) #[] #[]] w fun e w' => e = .returned (.bool (eqB L M)) ∧ Below w.heap.size w w') := Lib.hid (
    inp_eqf _ #[] si1_ent L M u v s1.1 s2.1 w h1 h2 (Lib.hid fun W' k hk hk' u v hu hv hb => si1_any _ _ u v W' hu hv (s1.2 _ (List.getElem_mem hk)) (s2.2 _ (List.getElem_mem hk'))))
  generalize eqB L M = r at *
  clear h1 h2 s1 s2
  go_enter Tryz.func25, Tryz.ntmps25
  go_wp2_with fail
  refine HC.out.mono ?_; rintro e w3 ⟨rfl, hb⟩
  have HB3 := Lib.hid hb
  clear hb
  go_wp2_with fail
  go_ret
  exact ⟨rfl, HB3.out⟩
theorem sf1_any (x y : Fld) (u v : Value) (w : World) (hu : FldV u x w) (hv : FldV v y w) (hx : FldSm x) (hy : FldSm y) :
    Calls Tryz.prog 24 #[u, v] w fun e w' => e = .returned (.bool (eqB x y)) ∧ Below w.heap.size w w' := by
  obtain ⟨_, _, _, _, _, _, _, _, _, rfl, h1, h2, h3⟩ := hu
  obtain ⟨_, _, _, _, _, _, _, _, _, rfl, k1, k2, k3⟩ := hv
  rw [eqB_fld]
  refine sf_c _ _ _ _ _ _ _ _ _ _ _ _ _ _ _ _ _ _ _ _ _ _ _ _ _ _ w (eqB_str _ _) ?_ ?_ ?_
  · exact Lib.hid fun W hW => sinps_any _ _ _ _ W (InpSl.below h1 hW) (InpSl.below k1 hW) hx.2.2.2.1 hy.2.2.2.1
  · exact Lib.hid fun W hW => sty_any _ _ _ _ _ _ _ _ _ _ W hx.2.2.1 hy.2.2.1 (h2.below hW) (k2.below hW)
  · exact Lib.hid fun W hW => sdirs_any _ _ _ _ W (DirSlc.below h3 hW) (DirSlc.below k3 hW) hx.2.2.2.2 hy.2.2.2.2
theorem sflds_any (L M : List Fld) (u v : Value) (w : World) (h1 : FldSl u L w) (h2 : FldSl v M w) (s1 : FldsSm L) (s2 : FldsSm M) :
    Calls Tryz.prog 31 #[u, v, .func (.func 24) #[] #[]] w fun e w' => e = .returned (.bool (eqB L M)) ∧ Below w.heap.size w w' :=
  fld_eqf _ #[] sf1_ent L M u v s1.1 s2.1 w h1 h2 (Lib.hid fun W k hk hk' u v hu hv _ => sf1_any _ _ u v W hu hv (s1.2 _ (List.getElem_mem hk)) (s2.2 _ (List.getElem_mem hk')))
theorem sm1_any (bv : Nat) (x y : Dfn) (u v : Value) (w : World) (hcap : w.cell? ⟨bv, 0, none⟩ = some (.func (.func 24) #[] #[])) (hu : DfnV u x w) (hv : DfnV v y w) (hx : DfnSm x) (hy : DfnSm y) :
    Calls Tryz.prog 29 #[u, v, .pointer (some ⟨bv, 0, none⟩)] w fun e w' => e = .returned (.bool (eqB x y)) ∧ Below w.heap.size w w' := by
  obtain ⟨_, _, _, _, _, _, _, _, _, _, _, _, rfl, h1, h2, h3, h4⟩ := hu
  obtain ⟨_, _, _, _, _, _, _, _, _, _, _, _, rfl, k1, k2, k3, k4⟩ := hv
  rw [eqB_dfn]
  refine sm_c _ _ _ _ _ _ _ _ _ _ _ _ _ _ _ _ _ _ _ _ _ _ _ _ _ _ _ _ bv _ _ _ _ _ _ w hcap (eqB_kind _ _) (eqB_str _ _) ?_ ?_ ?_ ?_
  · exact Lib.hid fun W hW => sdirs_any _ _ _ _ W (DirSlc.below h1 hW) (DirSlc.below k1 hW) hx.2.1 hy.2.1
  · exact Lib.hid fun W hW => eqnm_any _ _ _ _ hx.2.2.1.1 hy.2.2.1.1 W (NmsSl.below h2 hW) (NmsSl.below k2 hW)
  · exact Lib.hid fun W hW => sinps_any _ _ _ _ W (InpSl.below h3 hW) (InpSl.below k3 hW) hx.2.2.2.1 hy.2.2.2.1
  · exact Lib.hid fun W hW => sflds_any _ _ _ _ W (FldSl.below h4 hW) (FldSl.below k4 hW) hx.2.2.2.2 hy.2.2.2.2
set_option maxRecDepth 100000 in
theorem sdefs_any (L M : List Dfn) (u v : Value) (w : World) (h1 : DfnSl u L w) (h2 : DfnSl v M w) (s1 : DfnsSm L) (s2 : DfnsSm M) :
    Calls Tryz.prog 7 #[u, v] w fun e w' => e = .returned (.bool (eqB L M)) ∧ Below w.heap.size w w' := by
  have HC : Hid (∀ (W : World) (bv : Nat), Below w.heap.size w W → W.cell? ⟨bv, 0, none⟩ = some (.func (.func 24) #[] #[]) → Calls Tryz.prog 28 #[u, v, .func (.func 29) #[] #[.pointer (some ⟨bv, 0, none⟩)]] W fun e w' => e = .returned (.bool (eqB L M)) ∧ Below W.heap.size W w') := Lib.hid fun W bv hW hc =>
    dfn_eqf _ #[.pointer (some ⟨bv, 0, none⟩)] sm1_ent L M u v s1.1 s2.1 W (DfnSl.below h1 hW) (DfnSl.below h2 hW) (Lib.hid fun W' k hk hk' u v hu hv hb => sm1_any bv _ _ u v W' ((hb.cell (p := ⟨_, _, none⟩) (lt_of_cell hc)).trans hc) hu hv (s1.2 _ (List.getElem_mem hk)) (s2.2 _ (List.getElem_mem hk')))
  generalize eqB L M = r at *
  clear h1 h2 s1 s2
  go_enter Tryz.func7, Tryz.ntmps7
  go_upto_region 2 with fail
  obtain ⟨w2, hw2⟩ : ∃ w2, w.alloc (.cells #[.func (.func 24) #[] #[]] 52 (0, 0)) = w2 := ⟨_, rfl⟩
  have HB2 : Hid (Below w.heap.size w w2) := Lib.hid (by rw [← hw2]; exact (Below.refl _ _).alloc (Nat.le_refl _) _)
  have k1 : w2.heap[w.heap.size]? = some (.cells #[.func (.func 24) #[] #[]] 52 (0, 0)) := by rw [← hw2]; exact heap_new _ _ _ rfl
  have d0 : w2.cell? ⟨w.heap.size, 0, none⟩ = some (.func (.func 24) #[] #[]) := (Lib.cell_of_heap k1 0).trans rfl
  have HC2 := Lib.hid (HC.out w2 w.heap.size HB2.out d0)
  try rw [hw2]
  clear hw2 k1 d0 HC
  go_wp2_with fail
  refine HC2.out.mono ?_; rintro e w3 ⟨rfl, hb⟩
  have HB3 := Lib.hid (HB2.out.trans (hb.mono HB2.out.size))
  clear hb
  go_wp2_with fail
  go_ret
  exact ⟨rfl, HB3.out⟩
end Go.Proofs.YtgacpmdebjndkaaGreatDoor
