/- doc.args, dirs, and the closures of doc.Same: equality. -/
import Derived.Test.YtbejhdhhkpllfaaGreatDoorXb
import Derived.Test.YtbejhdhhkpllfaaGreatDoorXc
import Derived.Test.YtbejhdhhkpllfaaGreatDoorDe
import Derived.Test.YtbejhdhhkpllfaaGreatDoorDh
set_option linter.unusedSimpArgs false
set_option linter.unusedVariables false
namespace Go.Proofs.YtbejhdhhkpllfaaGreatDoor
open Go.RowKit
def SelSm (x : SelD) : Prop := x.als.length ≤ 9223372036854775807 ∧ x.name.length ≤ 9223372036854775807 ∧ ArgsSm x.args ∧ DirsSm x.dirs
def SelsSm (L : List SelD) : Prop := L.length ≤ 100000 ∧ ∀ x ∈ L, SelSm x
def OprSm (x : OpD) : Prop := x.name.length ≤ 1000000 ∧ InpsSm x.vars ∧ SelsSm x.sels
def OprsSm (L : List OpD) : Prop := L.length ≤ 100000 ∧ ∀ x ∈ L, OprSm x
def FrgSm (x : FrgD) : Prop := x.name.length ≤ 9223372036854775807 ∧ x.on.length ≤ 9223372036854775807 ∧ SelsSm x.sels
def FrgsSm (L : List FrgD) : Prop := L.length ≤ 100000 ∧ ∀ x ∈ L, FrgSm x
def DocSm (x : DocD) : Prop := OprsSm x.ops ∧ FrgsSm x.frags
theorem da1_ent : ∀ args w, (callFunc 48 args).run Tryz.prog w = .ok (.enter 48 args) w := enters_of Tryz.func48 (by kernel_rfl) rfl
theorem dd1_ent : ∀ args w, (callFunc 50 args).run Tryz.prog w = .ok (.enter 50 args) w := enters_of Tryz.func50 (by kernel_rfl) rfl
theorem dse_ent : ∀ args w, (callFunc 17 args).run Tryz.prog w = .ok (.enter 17 args) w := enters_of Tryz.func17 (by kernel_rfl) rfl
theorem dva_ent : ∀ args w, (callFunc 20 args).run Tryz.prog w = .ok (.enter 20 args) w := enters_of Tryz.func20 (by kernel_rfl) rfl
theorem dop_ent : ∀ args w, (callFunc 23 args).run Tryz.prog w = .ok (.enter 23 args) w := enters_of Tryz.func23 (by kernel_rfl) rfl
theorem dfr_ent : ∀ args w, (callFunc 26 args).run Tryz.prog w = .ok (.enter 26 args) w := enters_of Tryz.func26 (by kernel_rfl) rfl
theorem da1_any (x y : ArgD) (u v : Value) (w : World) (hu : ArgV u x w) (hv : ArgV v y w) (hx : ArgSm x) (hy : ArgSm y) :
    Calls Tryz.prog 48 #[u, v] w fun e w' => e = .returned (.bool (eqB x y)) ∧ Below w.heap.size w w' := by
  obtain ⟨_, _, _, rfl, h1⟩ := hu
  obtain ⟨_, _, _, rfl, h2⟩ := hv
  rw [eqB_pair]
  exact da1_c _ _ _ _ _ _ _ _ _ _ w (eqB_str _ _) (Lib.hid fun W hW => eqcel_eq _ _ _ _ hx.2.1 hy.2.1 W (CelSl.below h1 hW) (CelSl.below h2 hW))
set_option maxRecDepth 100000 in
theorem dargs_any (L M : List ArgD) (u v : Value) (w : World) (h1 : ArgSl u L w) (h2 : ArgSl v M w) (s1 : ArgsSm L) (s2 : ArgsSm M) :
    Calls Tryz.prog 18 #[u, v] w fun e w' => e = .returned (.bool (eqB L M)) ∧ Below w.heap.size w w' := by
  have HC : Hid (Calls Tryz.prog 47 #[u, v, .func (.func 48) #[] #[]] w fun e w' => e = .returned (.bool (eqB L M)) ∧ Below w.heap.size w w') := Lib.hid (
    arg_eqf _ #[] da1_ent L M u v s1.1 s2.1 w h1 h2 (Lib.hid fun W' k hk hk' u v hu hv hb => da1_any _ _ u v W' hu hv (s1.2 _ (List.getElem_mem hk)) (s2.2 _ (List.getElem_mem hk'))))
  generalize eqB L M = r at *
  clear h1 h2 s1 s2
  go_enter Tryz.func18, Tryz.ntmps18
  go_wp2_with fail
  refine HC.out.mono ?_; rintro e w3 ⟨rfl, hb⟩
  have HB3 := Lib.hid hb
  clear hb
  go_wp2_with fail
  go_ret
  exact ⟨rfl, HB3.out⟩
theorem dd1_any (x y : DirD) (u v : Value) (w : World) (hu : DirV u x w) (hv : DirV v y w) (hx : DirSm x) (hy : DirSm y) :
    Calls Tryz.prog 50 #[u, v] w fun e w' => e = .returned (.bool (eqB x y)) ∧ Below w.heap.size w w' := by
  obtain ⟨_, _, _, rfl, h1⟩ := hu
  obtain ⟨_, _, _, rfl, h2⟩ := hv
  rw [eqB_pair]
  exact dd1_c _ _ _ _ _ _ _ _ _ _ w (eqB_str _ _) (Lib.hid fun W hW => dargs_any _ _ _ _ W (ArgSl.below h1.1 hW) (ArgSl.below h2.1 hW) hx.2 hy.2)
set_option maxRecDepth 100000 in
theorem ddirs_any (L M : List DirD) (u v : Value) (w : World) (h1 : DirSlc u L w) (h2 : DirSlc v M w) (s1 : DirsSm L) (s2 : DirsSm M) :
    Calls Tryz.prog 19 #[u, v] w fun e w' => e = .returned (.bool (eqB L M)) ∧ Below w.heap.size w w' := by
  have HC : Hid (Calls Tryz.prog 49 #[u, v, .func (.func 50) #[] #[]] w fun e w' => e = .returned (.bool (eqB L M)) ∧ Below w.heap.size w w') := Lib.hid (
    dir_eqf _ #[] dd1_ent L M u v s1.1 s2.1 w h1 h2 (Lib.hid fun W' k hk hk' u v hu hv hb => dd1_any _ _ u v W' hu hv (s1.2 _ (List.getElem_mem hk)) (s2.2 _ (List.getElem_mem hk'))))
  generalize eqB L M = r at *
  clear h1 h2 s1 s2
  go_enter Tryz.func19, Tryz.ntmps19
  go_wp2_with fail
  refine HC.out.mono ?_; rintro e w3 ⟨rfl, hb⟩
  have HB3 := Lib.hid hb
  clear hb
  go_wp2_with fail
  go_ret
  exact ⟨rfl, HB3.out⟩
theorem dse_any (x y : SelD) (u v : Value) (w : World) (hu : SelV u x w) (hv : SelV v y w) (hx : SelSm x) (hy : SelSm y) :
    Calls Tryz.prog 17 #[u, v] w fun e w' => e = .returned (.bool (eqB x y)) ∧ Below w.heap.size w w' := by
  obtain ⟨_, _, _, _, _, _, rfl, h1, h2⟩ := hu
  obtain ⟨_, _, _, _, _, _, rfl, k1, k2⟩ := hv
  rw [eqB_SelG]
  refine dse_c _ _ _ _ _ _ _ _ _ _ _ _ _ _ _ _ _ _ _ _ _ _ _ _ _ _ w (eqB_kind _ _) (eqB_str _ _) (eqB_str _ _) (eqB_int _ _) ?_ ?_
  · exact Lib.hid fun W hW => dargs_any _ _ _ _ W (ArgSl.below h1 hW) (ArgSl.below k1 hW) hx.2.2.1 hy.2.2.1
  · exact Lib.hid fun W hW => ddirs_any _ _ _ _ W (DirSlc.below h2 hW) (DirSlc.below k2 hW) hx.2.2.2 hy.2.2.2
theorem dsels_any (L M : List SelD) (u v : Value) (w : World) (h1 : SelSl u L w) (h2 : SelSl v M w) (s1 : SelsSm L) (s2 : SelsSm M) :
    Calls Tryz.prog 25 #[u, v, .func (.func 17) #[] #[]] w fun e w' => e = .returned (.bool (eqB L M)) ∧ Below w.heap.size w w' :=
  sel_eqf _ #[] dse_ent L M u v s1.1 s2.1 w h1 h2 (Lib.hid fun W k hk hk' u v hu hv _ => dse_any _ _ u v W hu hv (s1.2 _ (List.getElem_mem hk)) (s2.2 _ (List.getElem_mem hk')))
theorem dva_any (x y : Inp) (u v : Value) (w : World) (hu : InpV u x w) (hv : InpV v y w) (hx : InpSm x) (hy : InpSm y) :
    Calls Tryz.prog 20 #[u, v] w fun e w' => e = .returned (.bool (eqB x y)) ∧ Below w.heap.size w w' := by
  obtain ⟨_, _, _, _, _, _, _, _, _, rfl, h1, h2, h3⟩ := hu
  obtain ⟨_, _, _, _, _, _, _, _, _, rfl, k1, k2, k3⟩ := hv
  have e : eqB x y = (eqB x.name y.name && eqB x.tnm y.tnm && eqB x.wr y.wr && eqB x.has y.has && eqB x.dflt y.dflt && eqB x.dirs y.dirs) := by
    rw [eqB_inp]
    cases eqB x.name y.name <;> cases eqB x.tnm y.tnm <;> cases eqB x.wr y.wr <;> rfl
  rw [e]
  refine dva_c _ _ _ _ _ _ _ _ _ _ _ _ _ _ _ _ _ _ _ _ _ _ _ _ _ _ _ _ _ _ w (eqB_str _ _) (eqB_str _ _) ?_ (eqB_bool _ _) ?_ ?_
  · exact Lib.hid fun W hW => equ8_any _ _ _ _ hx.2.2.1 hy.2.2.1 W (h1.below hW) (k1.below hW)
  · exact Lib.hid fun W hW => eqcel_eq _ _ _ _ hx.2.2.2.1.1 hy.2.2.2.1.1 W (h2.below hW) (k2.below hW)
  · exact Lib.hid fun W hW => ddirs_any _ _ _ _ W (DirSlc.below h3 hW) (DirSlc.below k3 hW) hx.2.2.2.2 hy.2.2.2.2
theorem dvars_any (L M : List Inp) (u v : Value) (w : World) (h1 : InpSl u L w) (h2 : InpSl v M w) (s1 : InpsSm L) (s2 : InpsSm M) :
    Calls Tryz.prog 24 #[u, v, .func (.func 20) #[] #[]] w fun e w' => e = .returned (.bool (eqB L M)) ∧ Below w.heap.size w w' :=
  inp_eqf _ #[] dva_ent L M u v s1.1 s2.1 w h1 h2 (Lib.hid fun W k hk hk' u v hu hv _ => dva_any _ _ u v W hu hv (s1.2 _ (List.getElem_mem hk)) (s2.2 _ (List.getElem_mem hk')))
theorem dop_any (bv bv1 : Nat) (x y : OpD) (u v : Value) (w : World) (hcap : w.cell? ⟨bv, 0, none⟩ = some (.func (.func 20) #[] #[])) (hcap1 : w.cell? ⟨bv1, 0, none⟩ = some (.func (.func 17) #[] #[])) (hu : OprV u x w) (hv : OprV v y w) (hx : OprSm x) (hy : OprSm y) :
    Calls Tryz.prog 23 #[u, v, .pointer (some ⟨bv, 0, none⟩), .pointer (some ⟨bv1, 0, none⟩)] w fun e w' => e = .returned (.bool (eqB x y)) ∧ Below w.heap.size w w' := by
  obtain ⟨_, _, _, _, _, _, rfl, h1, h2⟩ := hu
  obtain ⟨_, _, _, _, _, _, rfl, k1, k2⟩ := hv
  rw [eqB_OprG]
  refine dop_c _ _ _ _ _ _ _ _ _ _ _ _ _ _ _ _ _ _ bv bv1 _ _ _ _ _ w hcap hcap1 (eqB_kind _ _) (eqB_str _ _) (eqB_int _ _) ?_ ?_
  · exact Lib.hid fun W hW => dvars_any _ _ _ _ W (InpSl.below h1 hW) (InpSl.below k1 hW) hx.2.1 hy.2.1
  · exact Lib.hid fun W hW => dsels_any _ _ _ _ W (SelSl.below h2 hW) (SelSl.below k2 hW) hx.2.2 hy.2.2
theorem dfr_any (bv : Nat) (x y : FrgD) (u v : Value) (w : World) (hcap : w.cell? ⟨bv, 0, none⟩ = some (.func (.func 17) #[] #[])) (hu : FrgV u x w) (hv : FrgV v y w) (hx : FrgSm x) (hy : FrgSm y) :
    Calls Tryz.prog 26 #[u, v, .pointer (some ⟨bv, 0, none⟩)] w fun e w' => e = .returned (.bool (eqB x y)) ∧ Below w.heap.size w w' := by
  obtain ⟨_, _, _, rfl, h1⟩ := hu
  obtain ⟨_, _, _, rfl, k1⟩ := hv
  rw [eqB_Frg]
  refine dfr_c _ _ _ _ _ _ _ _ _ _ _ _ bv _ _ _ _ w hcap (eqB_str _ _) (eqB_str _ _) (eqB_int _ _) ?_
  exact Lib.hid fun W hW => dsels_any _ _ _ _ W (SelSl.below h1 hW) (SelSl.below k1 hW) hx.2.2 hy.2.2
end Go.Proofs.YtbejhdhhkpllfaaGreatDoor
