/- sdl's inputs, Check. -/
import Derived.Test.YtgacpmdebjndkaaGreatDoorDm
set_option linter.unusedSimpArgs false
set_option linter.unusedVariables false
namespace Go.Proofs.YtgacpmdebjndkaaGreatDoor
open Go.RowKit
set_option maxRecDepth 100000 in
set_option maxHeartbeats 4000000 in
theorem sic_c (x0 : ByteArray) (x1 : ByteArray) (xa2 : Option Addr) (xn2 xc2 : Nat) (x3 : Bool) (xa4 : Option Addr) (xn4 xc4 : Nat) (xa5 : Option Addr) (xn5 xc5 : Nat) (t0 t1 t2 t3 t4 : Bool) (w : World)
    (H0 : Hid (∀ W, Below w.heap.size w W → Calls Tryz.prog 14 #[.string x0] W fun e w' => e = .returned (.bool t0) ∧ Below W.heap.size W w'))
    (H1 : Hid (∀ W, Below w.heap.size w W → Calls Tryz.prog 18 #[.agg #[.string x1, .slice xa2 xn2 xc2]] W fun e w' => e = .returned (.bool t1) ∧ Below W.heap.size W w'))
    (H2 : Hid (∀ W, Below w.heap.size w W → Calls Tryz.prog 19 #[.slice xa5 xn5 xc5] W fun e w' => e = .returned (.bool t2) ∧ Below W.heap.size W w'))
    (H3 : Hid (∀ W, Below w.heap.size w W → Calls Tryz.prog 47 #[.slice xa4 xn4 xc4] W fun e w' => e = .returned (.bool t3) ∧ Below W.heap.size W w'))
    (h4 : (xn4 == 0) = t4) :
    Calls Tryz.prog 46 #[.agg #[.string x0, .string x1, .slice xa2 xn2 xc2, .bool x3, .slice xa4 xn4 xc4, .slice xa5 xn5 xc5]] w fun e w' => e = .returned (.bool (!(t0 && t1 && t2 && cond x3 t3 t4))) ∧ Below w.heap.size w w' := by
  go_enter Tryz.func46, Tryz.ntmps46
  go_upto_region 1 with fail
  obtain ⟨w2, hw2⟩ : ∃ w2, w.alloc (.cells #[.string x0, .string x1, .slice xa2 xn2 xc2, .bool x3, .slice xa4 xn4 xc4, .slice xa5 xn5 xc5] 71 (0, 0)) = w2 := ⟨_, rfl⟩
  have HB2 : Hid (Below w.heap.size w w2) := Lib.hid (by rw [← hw2]; exact (Below.refl _ _).alloc (Nat.le_refl _) _)
  have k1 : w2.heap[w.heap.size]? = some (.cells #[.string x0, .string x1, .slice xa2 xn2 xc2, .bool x3, .slice xa4 xn4 xc4, .slice xa5 xn5 xc5] 71 (0, 0)) := by rw [← hw2]; exact heap_new _ _ _ rfl
  have MK : Hid (∀ W, Below w2.heap.size w2 W → W.cell? ⟨w.heap.size, 0, none⟩ = some (.string x0) ∧ W.cell? ⟨w.heap.size, 1, none⟩ = some (.string x1) ∧ W.cell? ⟨w.heap.size, 2, none⟩ = some (.slice xa2 xn2 xc2) ∧ W.cell? ⟨w.heap.size, 3, none⟩ = some (.bool x3) ∧ W.cell? ⟨w.heap.size, 4, none⟩ = some (.slice xa4 xn4 xc4) ∧ W.cell? ⟨w.heap.size, 5, none⟩ = some (.slice xa5 xn5 xc5)) := Lib.hid fun W hW => ⟨(Lib.cell_of_heap ((hW.block _ (heap_lt k1)).trans k1) 0).trans rfl, (Lib.cell_of_heap ((hW.block _ (heap_lt k1)).trans k1) 1).trans rfl, (Lib.cell_of_heap ((hW.block _ (heap_lt k1)).trans k1) 2).trans rfl, (Lib.cell_of_heap ((hW.block _ (heap_lt k1)).trans k1) 3).trans rfl, (Lib.cell_of_heap ((hW.block _ (heap_lt k1)).trans k1) 4).trans rfl, (Lib.cell_of_heap ((hW.block _ (heap_lt k1)).trans k1) 5).trans rfl⟩
  obtain ⟨d0, d1, d2, d3, d4, d5⟩ := MK.out w2 (Below.refl _ _)
  have HBV : Hid (Below w2.heap.size w2 w2) := Lib.hid (Below.refl _ _)
  try rw [hw2]
  clear hw2 k1
  cases t0 with
  | false =>
    go_wp2_with fail
    refine (H0.out _ (HB2.out.trans (HBV.out.mono HB2.out.size))).mono ?_; rintro e w5 ⟨rfl, hb⟩
    have HBV2 : Hid (Below w2.heap.size w2 w5) := Lib.hid (HBV.out.trans (hb.mono HBV.out.size))
    obtain ⟨d0, d1, d2, d3, d4, d5⟩ := MK.out w5 HBV2.out
    clear HBV hb
    have HBV := HBV2
    clear HBV2
    go_wp2_with fail
    go_ret
    exact ⟨ret_b rfl, HB2.out.trans (HBV.out.mono HB2.out.size)⟩
  | true =>
    go_wp2_with fail
    refine (H0.out _ (HB2.out.trans (HBV.out.mono HB2.out.size))).mono ?_; rintro e w5 ⟨rfl, hb⟩
    have HBV2 : Hid (Below w2.heap.size w2 w5) := Lib.hid (HBV.out.trans (hb.mono HBV.out.size))
    obtain ⟨d0, d1, d2, d3, d4, d5⟩ := MK.out w5 HBV2.out
    clear HBV hb
    have HBV := HBV2
    clear HBV2
    cases t1 with
    | false =>
      go_wp2_with fail
      refine (H1.out _ (HB2.out.trans (HBV.out.mono HB2.out.size))).mono ?_; rintro e w5 ⟨rfl, hb⟩
      have HBV2 : Hid (Below w2.heap.size w2 w5) := Lib.hid (HBV.out.trans (hb.mono HBV.out.size))
      obtain ⟨d0, d1, d2, d3, d4, d5⟩ := MK.out w5 HBV2.out
      clear HBV hb
      have HBV := HBV2
      clear HBV2
      go_wp2_with fail
      go_ret
      exact ⟨ret_b rfl, HB2.out.trans (HBV.out.mono HB2.out.size)⟩
    | true =>
      go_wp2_with fail
      refine (H1.out _ (HB2.out.trans (HBV.out.mono HB2.out.size))).mono ?_; rintro e w5 ⟨rfl, hb⟩
      have HBV2 : Hid (Below w2.heap.size w2 w5) := Lib.hid (HBV.out.trans (hb.mono HBV.out.size))
      obtain ⟨d0, d1, d2, d3, d4, d5⟩ := MK.out w5 HBV2.out
      clear HBV hb
      have HBV := HBV2
      clear HBV2
      cases t2 with
      | false =>
        go_wp2_with fail
        refine (H2.out _ (HB2.out.trans (HBV.out.mono HB2.out.size))).mono ?_; rintro e w5 ⟨rfl, hb⟩
        have HBV2 : Hid (Below w2.heap.size w2 w5) := Lib.hid (HBV.out.trans (hb.mono HBV.out.size))
        obtain ⟨d0, d1, d2, d3, d4, d5⟩ := MK.out w5 HBV2.out
        clear HBV hb
        have HBV := HBV2
        clear HBV2
        go_wp2_with fail
        go_ret
        exact ⟨ret_b rfl, HB2.out.trans (HBV.out.mono HB2.out.size)⟩
      | true =>
        go_wp2_with fail
        refine (H2.out _ (HB2.out.trans (HBV.out.mono HB2.out.size))).mono ?_; rintro e w5 ⟨rfl, hb⟩
        have HBV2 : Hid (Below w2.heap.size w2 w5) := Lib.hid (HBV.out.trans (hb.mono HBV.out.size))
        obtain ⟨d0, d1, d2, d3, d4, d5⟩ := MK.out w5 HBV2.out
        clear HBV hb
        have HBV := HBV2
        clear HBV2
        cases x3 with
        | false =>
          cases t4 with
          | false =>
            have hne : 0 < xn4 := by have := beq_eq_false_iff_ne.1 h4; omega
            go_wp2_with fail
            go_ret
            exact ⟨ret_b rfl, HB2.out.trans (HBV.out.mono HB2.out.size)⟩
          | true =>
            have hne : ¬ 0 < xn4 := by have := beq_iff_eq.1 h4; omega
            go_wp2_with fail
            go_ret
            exact ⟨ret_b rfl, HB2.out.trans (HBV.out.mono HB2.out.size)⟩
        | true =>
          cases t3 with
          | false =>
            go_wp2_with fail
            refine (H3.out _ (HB2.out.trans (HBV.out.mono HB2.out.size))).mono ?_; rintro e w5 ⟨rfl, hb⟩
            have HBV2 : Hid (Below w2.heap.size w2 w5) := Lib.hid (HBV.out.trans (hb.mono HBV.out.size))
            obtain ⟨d0, d1, d2, d3, d4, d5⟩ := MK.out w5 HBV2.out
            clear HBV hb
            have HBV := HBV2
            clear HBV2
            go_wp2_with fail
            go_ret
            exact ⟨ret_b rfl, HB2.out.trans (HBV.out.mono HB2.out.size)⟩
          | true =>
            go_wp2_with fail
            refine (H3.out _ (HB2.out.trans (HBV.out.mono HB2.out.size))).mono ?_; rintro e w5 ⟨rfl, hb⟩
            have HBV2 : Hid (Below w2.heap.size w2 w5) := Lib.hid (HBV.out.trans (hb.mono HBV.out.size))
            obtain ⟨d0, d1, d2, d3, d4, d5⟩ := MK.out w5 HBV2.out
            clear HBV hb
            have HBV := HBV2
            clear HBV2
            go_wp2_with fail
            go_ret
            exact ⟨ret_b rfl, HB2.out.trans (HBV.out.mono HB2.out.size)⟩
theorem sic_ent : ∀ args w, (callFunc 46 args).run Tryz.prog w = .ok (.enter 46 args) w := enters_of Tryz.func46 (by kernel_rfl) rfl
def fixD' (D : List DirD) : Bool := D.all fixD1
/-- An input that may be. -/
def inpB (x : Inp) : Bool := nameB x.name && ttB x.tnm x.wr && fixD' x.dirs && cond x.has (fixV x.dflt) x.dflt.isEmpty
theorem celsl_len {a : Option Addr} {n c : Nat} {V : List Cel} {w : World} (h : CelSl (.slice a n c) V w) : n = V.length := by
  rcases h with ⟨_, _, e, rfl, _⟩ | ⟨_, _, _, e, _⟩
  · injection e with _ e2 _
  · injection e with _ e2 _
theorem sic_any (x : Inp) (ev : Value) (w : World) (h : InpV ev x w) (hs : InpSm x) (hE : EnvU w) :
    Calls Tryz.prog 46 #[ev] w fun e w' => e = .returned (.bool (!inpB x)) ∧ Below w.heap.size w w' := by
  obtain ⟨_, _, _, _, _, _, _, _, _, rfl, h1, h2, h3⟩ := h
  refine sic_c _ _ _ _ _ _ _ _ _ _ _ _ _ _ _ _ _ w ?_ ?_ ?_ ?_ ?_
  · exact Lib.hid fun W _ => calls_below (lname_big _ (by rw [← bsz]; exact hs.1) W)
  · exact Lib.hid fun W hW => styp_any _ _ _ _ _ W (h1.below hW) hs.2.1 hs.2.2.1
  · exact Lib.hid fun W hW => sdirsm_any _ _ W (DirSlc.below h3 hW) hs.2.2.2.2 (hE.below hW)
  · exact Lib.hid fun W hW => fixed_any _ _ W (h2.below hW) hs.2.2.2.1 (hE.below hW)
  · rw [celsl_len h2]
    cases x.dflt <;> rfl
set_option maxRecDepth 100000 in
theorem sinputs_any (L : List Inp) (v : Value) (w : World) (hv : InpSl v L w) (hs : InpsSm L) (hE : EnvU w) :
    Calls Tryz.prog 20 #[v] w fun e w' => e = .returned (.bool (L.all inpB)) ∧ Below w.heap.size w w' := by
  have HC : Hid (Calls Tryz.prog 45 #[v, .func (.func 46) #[] #[]] w fun e w' => e = .returned (.bool (L.any fun x => !inpB x)) ∧ Below w.heap.size w w') := Lib.hid (
    inp_contains _ #[] sic_ent (fun x => !inpB x) L v w hv hs.1 (Lib.hid fun W k hk ev hev hb => sic_any _ ev W hev (hs.2 _ (List.getElem_mem hk)) (hE.below hb)))
  have hr : L.all inpB = !L.any fun x => !inpB x := by
    induction L with
    | nil => rfl
    | cons x r ih =>
      rw [List.all_cons, List.any_cons, Bool.not_or, Bool.not_not]
      congr 1
      clear hv hs HC ih
      induction r with
      | nil => rfl
      | cons y s ih2 => rw [List.all_cons, List.any_cons, Bool.not_or, Bool.not_not, ih2]
  rw [hr]
  clear hr hv hs hE
  generalize (L.any fun x => !inpB x) = r at *
  go_enter Tryz.func20, Tryz.ntmps20
  go_wp2_with fail
  refine HC.out.mono ?_; rintro e w1 ⟨rfl, hb⟩
  have HB := Lib.hid hb
  clear hb
  go_wp2_with fail
  go_ret
  exact ⟨rfl, HB.out⟩
set_option maxRecDepth 100000 in
set_option maxHeartbeats 4000000 in
theorem sfc_c (x0 : ByteArray) (xa1 : Option Addr) (xn1 xc1 : Nat) (x2 : ByteArray) (xa3 : Option Addr) (xn3 xc3 : Nat) (xa4 : Option Addr) (xn4 xc4 : Nat) (t0 t1 t2 t3 : Bool) (w : World)
    (H0 : Hid (∀ W, Below w.heap.size w W → Calls Tryz.prog 14 #[.string x0] W fun e w' => e = .returned (.bool t0) ∧ Below W.heap.size W w'))
    (H1 : Hid (∀ W, Below w.heap.size w W → Calls Tryz.prog 18 #[.agg #[.string x2, .slice xa3 xn3 xc3]] W fun e w' => e = .returned (.bool t1) ∧ Below W.heap.size W w'))
    (H2 : Hid (∀ W, Below w.heap.size w W → Calls Tryz.prog 19 #[.slice xa4 xn4 xc4] W fun e w' => e = .returned (.bool t2) ∧ Below W.heap.size W w'))
    (H3 : Hid (∀ W, Below w.heap.size w W → Calls Tryz.prog 20 #[.slice xa1 xn1 xc1] W fun e w' => e = .returned (.bool t3) ∧ Below W.heap.size W w')) :
    Calls Tryz.prog 17 #[.agg #[.string x0, .slice xa1 xn1 xc1, .string x2, .slice xa3 xn3 xc3, .slice xa4 xn4 xc4]] w fun e w' => e = .returned (.bool (!(t0 && t1 && t2 && t3))) ∧ Below w.heap.size w w' := by
  go_enter Tryz.func17, Tryz.ntmps17
  go_upto_region 1 with fail
  obtain ⟨w2, hw2⟩ : ∃ w2, w.alloc (.cells #[.string x0, .slice xa1 xn1 xc1, .string x2, .slice xa3 xn3 xc3, .slice xa4 xn4 xc4] 40 (0, 0)) = w2 := ⟨_, rfl⟩
  have HB2 : Hid (Below w.heap.size w w2) := Lib.hid (by rw [← hw2]; exact (Below.refl _ _).alloc (Nat.le_refl _) _)
  have k1 : w2.heap[w.heap.size]? = some (.cells #[.string x0, .slice xa1 xn1 xc1, .string x2, .slice xa3 xn3 xc3, .slice xa4 xn4 xc4] 40 (0, 0)) := by rw [← hw2]; exact heap_new _ _ _ rfl
  have MK : Hid (∀ W, Below w2.heap.size w2 W → W.cell? ⟨w.heap.size, 0, none⟩ = some (.string x0) ∧ W.cell? ⟨w.heap.size, 1, none⟩ = some (.slice xa1 xn1 xc1) ∧ W.cell? ⟨w.heap.size, 2, none⟩ = some (.string x2) ∧ W.cell? ⟨w.heap.size, 3, none⟩ = some (.slice xa3 xn3 xc3) ∧ W.cell? ⟨w.heap.size, 4, none⟩ = some (.slice xa4 xn4 xc4)) := Lib.hid fun W hW => ⟨(Lib.cell_of_heap ((hW.block _ (heap_lt k1)).trans k1) 0).trans rfl, (Lib.cell_of_heap ((hW.block _ (heap_lt k1)).trans k1) 1).trans rfl, (Lib.cell_of_heap ((hW.block _ (heap_lt k1)).trans k1) 2).trans rfl, (Lib.cell_of_heap ((hW.block _ (heap_lt k1)).trans k1) 3).trans rfl, (Lib.cell_of_heap ((hW.block _ (heap_lt k1)).trans k1) 4).trans rfl⟩
  obtain ⟨d0, d1, d2, d3, d4⟩ := MK.out w2 (Below.refl _ _)
  have HBV : Hid (Below w2.heap.size w2 w2) := Lib.hid (Below.refl _ _)
  try rw [hw2]
  clear hw2 k1
  cases t0 with
  | false =>
    go_wp2_with fail
    refine (H0.out _ (HB2.out.trans (HBV.out.mono HB2.out.size))).mono ?_; rintro e w5 ⟨rfl, hb⟩
    have HBV2 : Hid (Below w2.heap.size w2 w5) := Lib.hid (HBV.out.trans (hb.mono HBV.out.size))
    obtain ⟨d0, d1, d2, d3, d4⟩ := MK.out w5 HBV2.out
    clear HBV hb
    have HBV := HBV2
    clear HBV2
    go_wp2_with fail
    go_ret
    exact ⟨ret_b rfl, HB2.out.trans (HBV.out.mono HB2.out.size)⟩
  | true =>
    go_wp2_with fail
    refine (H0.out _ (HB2.out.trans (HBV.out.mono HB2.out.size))).mono ?_; rintro e w5 ⟨rfl, hb⟩
    have HBV2 : Hid (Below w2.heap.size w2 w5) := Lib.hid (HBV.out.trans (hb.mono HBV.out.size))
    obtain ⟨d0, d1, d2, d3, d4⟩ := MK.out w5 HBV2.out
    clear HBV hb
    have HBV := HBV2
    clear HBV2
    cases t1 with
    | false =>
      go_wp2_with fail
      refine (H1.out _ (HB2.out.trans (HBV.out.mono HB2.out.size))).mono ?_; rintro e w5 ⟨rfl, hb⟩
      have HBV2 : Hid (Below w2.heap.size w2 w5) := Lib.hid (HBV.out.trans (hb.mono HBV.out.size))
      obtain ⟨d0, d1, d2, d3, d4⟩ := MK.out w5 HBV2.out
      clear HBV hb
      have HBV := HBV2
      clear HBV2
      go_wp2_with fail
      go_ret
      exact ⟨ret_b rfl, HB2.out.trans (HBV.out.mono HB2.out.size)⟩
    | true =>
      go_wp2_with fail
      refine (H1.out _ (HB2.out.trans (HBV.out.mono HB2.out.size))).mono ?_; rintro e w5 ⟨rfl, hb⟩
      have HBV2 : Hid (Below w2.heap.size w2 w5) := Lib.hid (HBV.out.trans (hb.mono HBV.out.size))
      obtain ⟨d0, d1, d2, d3, d4⟩ := MK.out w5 HBV2.out
      clear HBV hb
      have HBV := HBV2
      clear HBV2
      cases t2 with
      | false =>
        go_wp2_with fail
        refine (H2.out _ (HB2.out.trans (HBV.out.mono HB2.out.size))).mono ?_; rintro e w5 ⟨rfl, hb⟩
        have HBV2 : Hid (Below w2.heap.size w2 w5) := Lib.hid (HBV.out.trans (hb.mono HBV.out.size))
        obtain ⟨d0, d1, d2, d3, d4⟩ := MK.out w5 HBV2.out
        clear HBV hb
        have HBV := HBV2
        clear HBV2
        go_wp2_with fail
        go_ret
        exact ⟨ret_b rfl, HB2.out.trans (HBV.out.mono HB2.out.size)⟩
      | true =>
        go_wp2_with fail
        refine (H2.out _ (HB2.out.trans (HBV.out.mono HB2.out.size))).mono ?_; rintro e w5 ⟨rfl, hb⟩
        have HBV2 : Hid (Below w2.heap.size w2 w5) := Lib.hid (HBV.out.trans (hb.mono HBV.out.size))
        obtain ⟨d0, d1, d2, d3, d4⟩ := MK.out w5 HBV2.out
        clear HBV hb
        have HBV := HBV2
        clear HBV2
        cases t3 with
        | false =>
          go_wp2_with fail
          refine (H3.out _ (HB2.out.trans (HBV.out.mono HB2.out.size))).mono ?_; rintro e w5 ⟨rfl, hb⟩
          have HBV2 : Hid (Below w2.heap.size w2 w5) := Lib.hid (HBV.out.trans (hb.mono HBV.out.size))
          obtain ⟨d0, d1, d2, d3, d4⟩ := MK.out w5 HBV2.out
          clear HBV hb
          have HBV := HBV2
          clear HBV2
          go_wp2_with fail
          go_ret
          exact ⟨ret_b rfl, HB2.out.trans (HBV.out.mono HB2.out.size)⟩
        | true =>
          go_wp2_with fail
          refine (H3.out _ (HB2.out.trans (HBV.out.mono HB2.out.size))).mono ?_; rintro e w5 ⟨rfl, hb⟩
          have HBV2 : Hid (Below w2.heap.size w2 w5) := Lib.hid (HBV.out.trans (hb.mono HBV.out.size))
          obtain ⟨d0, d1, d2, d3, d4⟩ := MK.out w5 HBV2.out
          clear HBV hb
          have HBV := HBV2
          clear HBV2
          go_wp2_with fail
          go_ret
          exact ⟨ret_b rfl, HB2.out.trans (HBV.out.mono HB2.out.size)⟩
theorem sfc_ent : ∀ args w, (callFunc 17 args).run Tryz.prog w = .ok (.enter 17 args) w := enters_of Tryz.func17 (by kernel_rfl) rfl
/-- A field that may be. -/
def fldB (x : Fld) : Bool := nameB x.name && ttB x.tnm x.wr && fixD' x.dirs && x.args.all inpB
theorem sfc_any (x : Fld) (ev : Value) (w : World) (h : FldV ev x w) (hs : FldSm x) (hE : EnvU w) :
    Calls Tryz.prog 17 #[ev] w fun e w' => e = .returned (.bool (!fldB x)) ∧ Below w.heap.size w w' := by
  obtain ⟨_, _, _, _, _, _, _, _, _, rfl, h1, h2, h3⟩ := h
  refine sfc_c _ _ _ _ _ _ _ _ _ _ _ _ _ _ _ w ?_ ?_ ?_ ?_
  · exact Lib.hid fun W _ => calls_below (lname_big _ (by rw [← bsz]; exact hs.1) W)
  · exact Lib.hid fun W hW => styp_any _ _ _ _ _ W (h2.below hW) hs.2.1 hs.2.2.1
  · exact Lib.hid fun W hW => sdirsm_any _ _ W (DirSlc.below h3 hW) hs.2.2.2.2 (hE.below hW)
  · exact Lib.hid fun W hW => sinputs_any _ _ W (InpSl.below h1 hW) hs.2.2.2.1 (hE.below hW)
theorem sflds_contains (L : List Fld) (v : Value) (w : World) (hv : FldSl v L w) (hs : FldsSm L) (hE : EnvU w) :
    Calls Tryz.prog 16 #[v, .func (.func 17) #[] #[]] w fun e w' => e = .returned (.bool (L.any fun x => !fldB x)) ∧ Below w.heap.size w w' :=
  fld_contains _ #[] sfc_ent (fun x => !fldB x) L v w hv hs.1 (Lib.hid fun W k hk ev hev hb => sfc_any _ ev W hev (hs.2 _ (List.getElem_mem hk)) (hE.below hb))
set_option maxRecDepth 100000 in
theorem snc_c (s : ByteArray) (t0 t1 : Bool) (w : World) (H0 : Hid (∀ W, Calls Tryz.prog 14 #[.string s] W fun e w' => e = .returned (.bool t0) ∧ W = w')) (H1 : Hid (∀ W, Calls Tryz.prog 15 #[.string s] W fun e w' => e = .returned (.bool t1) ∧ W = w')) :
    Calls Tryz.prog 13 #[.string s] w fun e w' => e = .returned (.bool (!(t0 && !t1))) ∧ Below w.heap.size w w' := by
  go_enter Tryz.func13, Tryz.ntmps13
  cases t0 with
  | false =>
    go_wp2_with fail
    refine (H0.out _).mono ?_; rintro e w2 ⟨rfl, rfl⟩
    go_wp2_with fail
    go_ret
    exact ⟨ret_b rfl, Below.refl _ _⟩
  | true =>
    go_wp2_with fail
    refine (H0.out _).mono ?_; rintro e w2 ⟨rfl, rfl⟩
    go_wp2_with fail
    refine (H1.out _).mono ?_; rintro e w2 ⟨rfl, rfl⟩
    go_wp2_with fail
    go_ret
    exact ⟨ret_b (by cases t1 <;> rfl), Below.refl _ _⟩
theorem snc_ent : ∀ args w, (callFunc 13 args).run Tryz.prog w = .ok (.enter 13 args) w := enters_of Tryz.func13 (by kernel_rfl) rfl
/-- An enum's name. -/
def enmB (s : List UInt8) : Bool := nameB s && !wordsK.contains s
theorem snames_contains (L : List (List UInt8)) (v : Value) (w : World) (hv : NmsSl v L w) (hs : NmsSm L) :
    Calls Tryz.prog 12 #[v, .func (.func 13) #[] #[]] w fun e w' => e = .returned (.bool (L.any fun x => !enmB x)) ∧ Below w.heap.size w w' :=
  nam_contains _ #[] snc_ent (fun x => !enmB x) L v w hv hs.1 (Lib.hid fun W k hk ev hev hb => by
    have hev : ev = .string ⟨L[k].toArray⟩ := hev
    subst hev
    exact snc_c _ _ _ W (Lib.hid fun W => lname_any _ (by rw [← bsz]; exact hs.2 _ (List.getElem_mem hk)) W) (Lib.hid fun W => scon_any _ W))
/-- Which parts a definition of a kind has. -/
def kindB (k : Int) (n m f : Nat) : Bool := if k = 1 then decide (0 < n) && !decide (0 < m) && !decide (0 < f) else if k = 2 then !decide (0 < n) && decide (0 < m) && !decide (0 < f) else if k = 3 then !decide (0 < n) && !decide (0 < m) && decide (0 < f) else false
theorem has_0 (a b c d : Bool) (w : World) : (Instr.index 41 (.agg #[.bool a, .bool b, .bool c, .bool d]) (.int .i64 0)).run Tryz.prog w = .ok (.bool a) w := by kernel_rfl
theorem has_1 (a b c d : Bool) (w : World) : (Instr.index 41 (.agg #[.bool a, .bool b, .bool c, .bool d]) (.int .i64 1)).run Tryz.prog w = .ok (.bool b) w := by kernel_rfl
theorem has_2 (a b c d : Bool) (w : World) : (Instr.index 41 (.agg #[.bool a, .bool b, .bool c, .bool d]) (.int .i64 2)).run Tryz.prog w = .ok (.bool c) w := by kernel_rfl
theorem has_3 (a b c d : Bool) (w : World) : (Instr.index 41 (.agg #[.bool a, .bool b, .bool c, .bool d]) (.int .i64 3)).run Tryz.prog w = .ok (.bool d) w := by kernel_rfl
set_option maxRecDepth 100000 in
set_option maxHeartbeats 8000000 in
theorem scd_bad (kk : Int) (x1 : ByteArray) (xa2 xa3 xa4 xa5 : Option Addr) (xn2 xc2 xn3 xc3 xn4 xc4 xn5 xc5 : Nat) (w : World) (hk : kk = 1 ∨ kk = 2 ∨ kk = 3) (h : kindB kk xn3 xn4 xn5 = false) :
    Calls Tryz.prog 11 #[.agg #[.int .u8 kk, .string x1, .slice xa2 xn2 xc2, .slice xa3 xn3 xc3, .slice xa4 xn4 xc4, .slice xa5 xn5 xc5]] w fun e w' => e = .returned (.bool true) ∧ Below w.heap.size w w' := by
  have key : ∀ n : Nat, 0 < n ∨ ¬ 0 < n := fun n => Classical.em _
  have HH := Lib.hid h
  clear h
  rcases hk with rfl | rfl | rfl <;> rcases key xn3 with h3 | h3 <;> rcases key xn4 with h4 | h4 <;> rcases key xn5 with h5 | h5
  all_goals first
    | (exfalso
       have := HH.out
       revert this
       clear HH
       unfold kindB
       simp only [show ((1 : Int) = 1) = True from by simp, show ((2 : Int) = 1) = False from by simp, show ((2 : Int) = 2) = True from by simp, show ((3 : Int) = 1) = False from by simp, show ((3 : Int) = 2) = False from by simp, show ((3 : Int) = 3) = True from by simp, if_true, if_false]
       first
         | (rw [decide_eq_true (by omega : 0 < xn3), decide_eq_false (by omega : ¬ 0 < xn4), decide_eq_false (by omega : ¬ 0 < xn5)]; intro h; cases h; done)
         | (rw [decide_eq_false (by omega : ¬ 0 < xn3), decide_eq_true (by omega : 0 < xn4), decide_eq_false (by omega : ¬ 0 < xn5)]; intro h; cases h; done)
         | (rw [decide_eq_false (by omega : ¬ 0 < xn3), decide_eq_false (by omega : ¬ 0 < xn4), decide_eq_true (by omega : 0 < xn5)]; intro h; cases h; done))
    | (have i0 := has_0
       have i1 := has_1
       have i2 := has_2
       have i3 := has_3
       go_enter Tryz.func11, Tryz.ntmps11
       go_wp2_with fail
       refine wp_loop_rounds 5 ?_
       repeat (first | (rw [rounds_succ]; go_wp2_with fail) | fail)
       go_ret
       exact ⟨rfl, ((Below.refl _ _).alloc (Nat.le_refl _) _).alloc (by simp) _⟩)
set_option maxRecDepth 100000 in
set_option maxHeartbeats 8000000 in
theorem scd_good1 (x1 : ByteArray) (xa2 xa3 xa4 xa5 : Option Addr) (xn2 xc2 xn3 xc3 xn4 xc4 xn5 xc5 : Nat) (w : World) (t0 t1 t2 tN tF : Bool) (f3 : 0 < xn3) (f4 : ¬ 0 < xn4) (f5 : ¬ 0 < xn5)
    (HN : Hid (∀ W, Below w.heap.size w W → Calls Tryz.prog 12 #[.slice xa3 xn3 xc3, .func (.func 13) #[] #[]] W fun e w' => e = .returned (.bool tN) ∧ Below W.heap.size W w'))
    (HF : Hid (∀ W, Below w.heap.size w W → Calls Tryz.prog 16 #[.slice xa5 xn5 xc5, .func (.func 17) #[] #[]] W fun e w' => e = .returned (.bool tF) ∧ Below W.heap.size W w'))
    (H0 : Hid (∀ W, Below w.heap.size w W → Calls Tryz.prog 14 #[.string x1] W fun e w' => e = .returned (.bool t0) ∧ Below W.heap.size W w'))
    (H1 : Hid (∀ W, Below w.heap.size w W → Calls Tryz.prog 19 #[.slice xa2 xn2 xc2] W fun e w' => e = .returned (.bool t1) ∧ Below W.heap.size W w'))
    (H2 : Hid (∀ W, Below w.heap.size w W → Calls Tryz.prog 20 #[.slice xa4 xn4 xc4] W fun e w' => e = .returned (.bool t2) ∧ Below W.heap.size W w')) :
    Calls Tryz.prog 11 #[.agg #[.int .u8 1, .string x1, .slice xa2 xn2 xc2, .slice xa3 xn3 xc3, .slice xa4 xn4 xc4, .slice xa5 xn5 xc5]] w fun e w' => e = .returned (.bool (!t0 || !t1 || tN || !t2 || tF)) ∧ Below w.heap.size w w' := by
  have i0 := has_0
  have i1 := has_1
  have i2 := has_2
  have i3 := has_3
  go_enter Tryz.func11, Tryz.ntmps11
  go_upto_region 2 with fail
  obtain ⟨w2, hw2⟩ : ∃ w2, (w.alloc (.cells #[.int .u8 1, .string x1, .slice xa2 xn2 xc2, .slice xa3 xn3 xc3, .slice xa4 xn4 xc4, .slice xa5 xn5 xc5] 33 (0, 0))).alloc (.cells #[.bool false, .bool true, .bool false, .bool false] 41 (0, 0)) = w2 := ⟨_, rfl⟩
  have HB2 : Hid (Below w.heap.size w w2) := Lib.hid (by rw [← hw2]; exact ((Below.refl _ _).alloc (Nat.le_refl _) _).alloc (by simp) _)
  have k1 : w2.heap[w.heap.size]? = some (.cells #[.int .u8 1, .string x1, .slice xa2 xn2 xc2, .slice xa3 xn3 xc3, .slice xa4 xn4 xc4, .slice xa5 xn5 xc5] 33 (0, 0)) := by rw [← hw2]; exact heap_old (heap_new _ _ _ rfl)
  have k2 : w2.heap[w.heap.size + 1]? = some (.cells #[.bool false, .bool true, .bool false, .bool false] 41 (0, 0)) := by rw [← hw2]; exact heap_new _ _ _ (by simp)
  have MK : Hid (∀ W, Below w2.heap.size w2 W → W.cell? ⟨w.heap.size, 0, none⟩ = some (.int .u8 1) ∧ W.cell? ⟨w.heap.size, 1, none⟩ = some (.string x1) ∧ W.cell? ⟨w.heap.size, 2, none⟩ = some (.slice xa2 xn2 xc2) ∧ W.cell? ⟨w.heap.size, 3, none⟩ = some (.slice xa3 xn3 xc3) ∧ W.cell? ⟨w.heap.size, 4, none⟩ = some (.slice xa4 xn4 xc4) ∧ W.cell? ⟨w.heap.size, 5, none⟩ = some (.slice xa5 xn5 xc5)) := Lib.hid fun W hW => ⟨(Lib.cell_of_heap ((hW.block _ (heap_lt k1)).trans k1) 0).trans rfl, (Lib.cell_of_heap ((hW.block _ (heap_lt k1)).trans k1) 1).trans rfl, (Lib.cell_of_heap ((hW.block _ (heap_lt k1)).trans k1) 2).trans rfl, (Lib.cell_of_heap ((hW.block _ (heap_lt k1)).trans k1) 3).trans rfl, (Lib.cell_of_heap ((hW.block _ (heap_lt k1)).trans k1) 4).trans rfl, (Lib.cell_of_heap ((hW.block _ (heap_lt k1)).trans k1) 5).trans rfl⟩
  obtain ⟨d0, d1, d2, d3, d4, d5⟩ := MK.out w2 (Below.refl _ _)
  have e0 : w2.cell? ⟨w.heap.size + 1, 0, none⟩ = some (.bool false) := (Lib.cell_of_heap k2 0).trans rfl
  have e1 : w2.cell? ⟨w.heap.size + 1, 1, none⟩ = some (.bool true) := (Lib.cell_of_heap k2 1).trans rfl
  have e2 : w2.cell? ⟨w.heap.size + 1, 2, none⟩ = some (.bool false) := (Lib.cell_of_heap k2 2).trans rfl
  have e3 : w2.cell? ⟨w.heap.size + 1, 3, none⟩ = some (.bool false) := (Lib.cell_of_heap k2 3).trans rfl
  have HBV : Hid (Below w2.heap.size w2 w2) := Lib.hid (Below.refl _ _)
  try rw [hw2]
  clear hw2 k1 k2
  go_wp2_with fail
  refine wp_loop_rounds 5 ?_
  repeat (first | (rw [rounds_succ]; go_wp2_with fail) | fail)
  refine (HN.out _ (HB2.out.trans (HBV.out.mono HB2.out.size))).mono ?_; rintro e w5 ⟨rfl, hb⟩
  have HBV2 : Hid (Below w2.heap.size w2 w5) := Lib.hid (HBV.out.trans (hb.mono HBV.out.size))
  obtain ⟨d0, d1, d2, d3, d4, d5⟩ := MK.out w5 HBV2.out
  clear HBV hb
  have HBV := HBV2
  clear HBV2
  go_wp2_with fail
  refine (HF.out _ (HB2.out.trans (HBV.out.mono HB2.out.size))).mono ?_; rintro e w5 ⟨rfl, hb⟩
  have HBV2 : Hid (Below w2.heap.size w2 w5) := Lib.hid (HBV.out.trans (hb.mono HBV.out.size))
  obtain ⟨d0, d1, d2, d3, d4, d5⟩ := MK.out w5 HBV2.out
  clear HBV hb
  have HBV := HBV2
  clear HBV2
  cases t0 with
  | false =>
    go_wp2_with fail
    refine (H0.out _ (HB2.out.trans (HBV.out.mono HB2.out.size))).mono ?_; rintro e w5 ⟨rfl, hb⟩
    have HBV2 : Hid (Below w2.heap.size w2 w5) := Lib.hid (HBV.out.trans (hb.mono HBV.out.size))
    obtain ⟨d0, d1, d2, d3, d4, d5⟩ := MK.out w5 HBV2.out
    clear HBV hb
    have HBV := HBV2
    clear HBV2
    go_wp2_with fail
    go_ret
    exact ⟨ret_b rfl, HB2.out.trans (HBV.out.mono HB2.out.size)⟩
  | true =>
    go_wp2_with fail
    refine (H0.out _ (HB2.out.trans (HBV.out.mono HB2.out.size))).mono ?_; rintro e w5 ⟨rfl, hb⟩
    have HBV2 : Hid (Below w2.heap.size w2 w5) := Lib.hid (HBV.out.trans (hb.mono HBV.out.size))
    obtain ⟨d0, d1, d2, d3, d4, d5⟩ := MK.out w5 HBV2.out
    clear HBV hb
    have HBV := HBV2
    clear HBV2
    cases t1 with
    | false =>
      go_wp2_with fail
      refine (H1.out _ (HB2.out.trans (HBV.out.mono HB2.out.size))).mono ?_; rintro e w5 ⟨rfl, hb⟩
      have HBV2 : Hid (Below w2.heap.size w2 w5) := Lib.hid (HBV.out.trans (hb.mono HBV.out.size))
      obtain ⟨d0, d1, d2, d3, d4, d5⟩ := MK.out w5 HBV2.out
      clear HBV hb
      have HBV := HBV2
      clear HBV2
      go_wp2_with fail
      go_ret
      exact ⟨ret_b rfl, HB2.out.trans (HBV.out.mono HB2.out.size)⟩
    | true =>
      go_wp2_with fail
      refine (H1.out _ (HB2.out.trans (HBV.out.mono HB2.out.size))).mono ?_; rintro e w5 ⟨rfl, hb⟩
      have HBV2 : Hid (Below w2.heap.size w2 w5) := Lib.hid (HBV.out.trans (hb.mono HBV.out.size))
      obtain ⟨d0, d1, d2, d3, d4, d5⟩ := MK.out w5 HBV2.out
      clear HBV hb
      have HBV := HBV2
      clear HBV2
      cases tN with
      | false =>
        cases t2 with
        | false =>
          go_wp2_with fail
          refine (H2.out _ (HB2.out.trans (HBV.out.mono HB2.out.size))).mono ?_; rintro e w5 ⟨rfl, hb⟩
          have HBV2 : Hid (Below w2.heap.size w2 w5) := Lib.hid (HBV.out.trans (hb.mono HBV.out.size))
          obtain ⟨d0, d1, d2, d3, d4, d5⟩ := MK.out w5 HBV2.out
          clear HBV hb
          have HBV := HBV2
          clear HBV2
          go_wp2_with fail
          go_ret
          exact ⟨ret_b rfl, HB2.out.trans (HBV.out.mono HB2.out.size)⟩
        | true =>
          go_wp2_with fail
          refine (H2.out _ (HB2.out.trans (HBV.out.mono HB2.out.size))).mono ?_; rintro e w5 ⟨rfl, hb⟩
          have HBV2 : Hid (Below w2.heap.size w2 w5) := Lib.hid (HBV.out.trans (hb.mono HBV.out.size))
          obtain ⟨d0, d1, d2, d3, d4, d5⟩ := MK.out w5 HBV2.out
          clear HBV hb
          have HBV := HBV2
          clear HBV2
          cases tF with
          | false =>
            go_wp2_with fail
            go_ret
            exact ⟨ret_b rfl, HB2.out.trans (HBV.out.mono HB2.out.size)⟩
          | true =>
            go_wp2_with fail
            go_ret
            exact ⟨ret_b rfl, HB2.out.trans (HBV.out.mono HB2.out.size)⟩
      | true =>
        go_wp2_with fail
        go_ret
        exact ⟨ret_b rfl, HB2.out.trans (HBV.out.mono HB2.out.size)⟩
set_option maxRecDepth 100000 in
set_option maxHeartbeats 8000000 in
theorem scd_good2 (x1 : ByteArray) (xa2 xa3 xa4 xa5 : Option Addr) (xn2 xc2 xn3 xc3 xn4 xc4 xn5 xc5 : Nat) (w : World) (t0 t1 t2 tN tF : Bool) (f3 : ¬ 0 < xn3) (f4 : 0 < xn4) (f5 : ¬ 0 < xn5)
    (HN : Hid (∀ W, Below w.heap.size w W → Calls Tryz.prog 12 #[.slice xa3 xn3 xc3, .func (.func 13) #[] #[]] W fun e w' => e = .returned (.bool tN) ∧ Below W.heap.size W w'))
    (HF : Hid (∀ W, Below w.heap.size w W → Calls Tryz.prog 16 #[.slice xa5 xn5 xc5, .func (.func 17) #[] #[]] W fun e w' => e = .returned (.bool tF) ∧ Below W.heap.size W w'))
    (H0 : Hid (∀ W, Below w.heap.size w W → Calls Tryz.prog 14 #[.string x1] W fun e w' => e = .returned (.bool t0) ∧ Below W.heap.size W w'))
    (H1 : Hid (∀ W, Below w.heap.size w W → Calls Tryz.prog 19 #[.slice xa2 xn2 xc2] W fun e w' => e = .returned (.bool t1) ∧ Below W.heap.size W w'))
    (H2 : Hid (∀ W, Below w.heap.size w W → Calls Tryz.prog 20 #[.slice xa4 xn4 xc4] W fun e w' => e = .returned (.bool t2) ∧ Below W.heap.size W w')) :
    Calls Tryz.prog 11 #[.agg #[.int .u8 2, .string x1, .slice xa2 xn2 xc2, .slice xa3 xn3 xc3, .slice xa4 xn4 xc4, .slice xa5 xn5 xc5]] w fun e w' => e = .returned (.bool (!t0 || !t1 || tN || !t2 || tF)) ∧ Below w.heap.size w w' := by
  have i0 := has_0
  have i1 := has_1
  have i2 := has_2
  have i3 := has_3
  go_enter Tryz.func11, Tryz.ntmps11
  go_upto_region 2 with fail
  obtain ⟨w2, hw2⟩ : ∃ w2, (w.alloc (.cells #[.int .u8 2, .string x1, .slice xa2 xn2 xc2, .slice xa3 xn3 xc3, .slice xa4 xn4 xc4, .slice xa5 xn5 xc5] 33 (0, 0))).alloc (.cells #[.bool false, .bool false, .bool true, .bool false] 41 (0, 0)) = w2 := ⟨_, rfl⟩
  have HB2 : Hid (Below w.heap.size w w2) := Lib.hid (by rw [← hw2]; exact ((Below.refl _ _).alloc (Nat.le_refl _) _).alloc (by simp) _)
  have k1 : w2.heap[w.heap.size]? = some (.cells #[.int .u8 2, .string x1, .slice xa2 xn2 xc2, .slice xa3 xn3 xc3, .slice xa4 xn4 xc4, .slice xa5 xn5 xc5] 33 (0, 0)) := by rw [← hw2]; exact heap_old (heap_new _ _ _ rfl)
  have k2 : w2.heap[w.heap.size + 1]? = some (.cells #[.bool false, .bool false, .bool true, .bool false] 41 (0, 0)) := by rw [← hw2]; exact heap_new _ _ _ (by simp)
  have MK : Hid (∀ W, Below w2.heap.size w2 W → W.cell? ⟨w.heap.size, 0, none⟩ = some (.int .u8 2) ∧ W.cell? ⟨w.heap.size, 1, none⟩ = some (.string x1) ∧ W.cell? ⟨w.heap.size, 2, none⟩ = some (.slice xa2 xn2 xc2) ∧ W.cell? ⟨w.heap.size, 3, none⟩ = some (.slice xa3 xn3 xc3) ∧ W.cell? ⟨w.heap.size, 4, none⟩ = some (.slice xa4 xn4 xc4) ∧ W.cell? ⟨w.heap.size, 5, none⟩ = some (.slice xa5 xn5 xc5)) := Lib.hid fun W hW => ⟨(Lib.cell_of_heap ((hW.block _ (heap_lt k1)).trans k1) 0).trans rfl, (Lib.cell_of_heap ((hW.block _ (heap_lt k1)).trans k1) 1).trans rfl, (Lib.cell_of_heap ((hW.block _ (heap_lt k1)).trans k1) 2).trans rfl, (Lib.cell_of_heap ((hW.block _ (heap_lt k1)).trans k1) 3).trans rfl, (Lib.cell_of_heap ((hW.block _ (heap_lt k1)).trans k1) 4).trans rfl, (Lib.cell_of_heap ((hW.block _ (heap_lt k1)).trans k1) 5).trans rfl⟩
  obtain ⟨d0, d1, d2, d3, d4, d5⟩ := MK.out w2 (Below.refl _ _)
  have e0 : w2.cell? ⟨w.heap.size + 1, 0, none⟩ = some (.bool false) := (Lib.cell_of_heap k2 0).trans rfl
  have e1 : w2.cell? ⟨w.heap.size + 1, 1, none⟩ = some (.bool false) := (Lib.cell_of_heap k2 1).trans rfl
  have e2 : w2.cell? ⟨w.heap.size + 1, 2, none⟩ = some (.bool true) := (Lib.cell_of_heap k2 2).trans rfl
  have e3 : w2.cell? ⟨w.heap.size + 1, 3, none⟩ = some (.bool false) := (Lib.cell_of_heap k2 3).trans rfl
  have HBV : Hid (Below w2.heap.size w2 w2) := Lib.hid (Below.refl _ _)
  try rw [hw2]
  clear hw2 k1 k2
  go_wp2_with fail
  refine wp_loop_rounds 5 ?_
  repeat (first | (rw [rounds_succ]; go_wp2_with fail) | fail)
  refine (HN.out _ (HB2.out.trans (HBV.out.mono HB2.out.size))).mono ?_; rintro e w5 ⟨rfl, hb⟩
  have HBV2 : Hid (Below w2.heap.size w2 w5) := Lib.hid (HBV.out.trans (hb.mono HBV.out.size))
  obtain ⟨d0, d1, d2, d3, d4, d5⟩ := MK.out w5 HBV2.out
  clear HBV hb
  have HBV := HBV2
  clear HBV2
  go_wp2_with fail
  refine (HF.out _ (HB2.out.trans (HBV.out.mono HB2.out.size))).mono ?_; rintro e w5 ⟨rfl, hb⟩
  have HBV2 : Hid (Below w2.heap.size w2 w5) := Lib.hid (HBV.out.trans (hb.mono HBV.out.size))
  obtain ⟨d0, d1, d2, d3, d4, d5⟩ := MK.out w5 HBV2.out
  clear HBV hb
  have HBV := HBV2
  clear HBV2
  cases t0 with
  | false =>
    go_wp2_with fail
    refine (H0.out _ (HB2.out.trans (HBV.out.mono HB2.out.size))).mono ?_; rintro e w5 ⟨rfl, hb⟩
    have HBV2 : Hid (Below w2.heap.size w2 w5) := Lib.hid (HBV.out.trans (hb.mono HBV.out.size))
    obtain ⟨d0, d1, d2, d3, d4, d5⟩ := MK.out w5 HBV2.out
    clear HBV hb
    have HBV := HBV2
    clear HBV2
    go_wp2_with fail
    go_ret
    exact ⟨ret_b rfl, HB2.out.trans (HBV.out.mono HB2.out.size)⟩
  | true =>
    go_wp2_with fail
    refine (H0.out _ (HB2.out.trans (HBV.out.mono HB2.out.size))).mono ?_; rintro e w5 ⟨rfl, hb⟩
    have HBV2 : Hid (Below w2.heap.size w2 w5) := Lib.hid (HBV.out.trans (hb.mono HBV.out.size))
    obtain ⟨d0, d1, d2, d3, d4, d5⟩ := MK.out w5 HBV2.out
    clear HBV hb
    have HBV := HBV2
    clear HBV2
    cases t1 with
    | false =>
      go_wp2_with fail
      refine (H1.out _ (HB2.out.trans (HBV.out.mono HB2.out.size))).mono ?_; rintro e w5 ⟨rfl, hb⟩
      have HBV2 : Hid (Below w2.heap.size w2 w5) := Lib.hid (HBV.out.trans (hb.mono HBV.out.size))
      obtain ⟨d0, d1, d2, d3, d4, d5⟩ := MK.out w5 HBV2.out
      clear HBV hb
      have HBV := HBV2
      clear HBV2
      go_wp2_with fail
      go_ret
      exact ⟨ret_b rfl, HB2.out.trans (HBV.out.mono HB2.out.size)⟩
    | true =>
      go_wp2_with fail
      refine (H1.out _ (HB2.out.trans (HBV.out.mono HB2.out.size))).mono ?_; rintro e w5 ⟨rfl, hb⟩
      have HBV2 : Hid (Below w2.heap.size w2 w5) := Lib.hid (HBV.out.trans (hb.mono HBV.out.size))
      obtain ⟨d0, d1, d2, d3, d4, d5⟩ := MK.out w5 HBV2.out
      clear HBV hb
      have HBV := HBV2
      clear HBV2
      cases tN with
      | false =>
        cases t2 with
        | false =>
          go_wp2_with fail
          refine (H2.out _ (HB2.out.trans (HBV.out.mono HB2.out.size))).mono ?_; rintro e w5 ⟨rfl, hb⟩
          have HBV2 : Hid (Below w2.heap.size w2 w5) := Lib.hid (HBV.out.trans (hb.mono HBV.out.size))
          obtain ⟨d0, d1, d2, d3, d4, d5⟩ := MK.out w5 HBV2.out
          clear HBV hb
          have HBV := HBV2
          clear HBV2
          go_wp2_with fail
          go_ret
          exact ⟨ret_b rfl, HB2.out.trans (HBV.out.mono HB2.out.size)⟩
        | true =>
          go_wp2_with fail
          refine (H2.out _ (HB2.out.trans (HBV.out.mono HB2.out.size))).mono ?_; rintro e w5 ⟨rfl, hb⟩
          have HBV2 : Hid (Below w2.heap.size w2 w5) := Lib.hid (HBV.out.trans (hb.mono HBV.out.size))
          obtain ⟨d0, d1, d2, d3, d4, d5⟩ := MK.out w5 HBV2.out
          clear HBV hb
          have HBV := HBV2
          clear HBV2
          cases tF with
          | false =>
            go_wp2_with fail
            go_ret
            exact ⟨ret_b rfl, HB2.out.trans (HBV.out.mono HB2.out.size)⟩
          | true =>
            go_wp2_with fail
            go_ret
            exact ⟨ret_b rfl, HB2.out.trans (HBV.out.mono HB2.out.size)⟩
      | true =>
        go_wp2_with fail
        go_ret
        exact ⟨ret_b rfl, HB2.out.trans (HBV.out.mono HB2.out.size)⟩
set_option maxRecDepth 100000 in
set_option maxHeartbeats 8000000 in
theorem scd_good3 (x1 : ByteArray) (xa2 xa3 xa4 xa5 : Option Addr) (xn2 xc2 xn3 xc3 xn4 xc4 xn5 xc5 : Nat) (w : World) (t0 t1 t2 tN tF : Bool) (f3 : ¬ 0 < xn3) (f4 : ¬ 0 < xn4) (f5 : 0 < xn5)
    (HN : Hid (∀ W, Below w.heap.size w W → Calls Tryz.prog 12 #[.slice xa3 xn3 xc3, .func (.func 13) #[] #[]] W fun e w' => e = .returned (.bool tN) ∧ Below W.heap.size W w'))
    (HF : Hid (∀ W, Below w.heap.size w W → Calls Tryz.prog 16 #[.slice xa5 xn5 xc5, .func (.func 17) #[] #[]] W fun e w' => e = .returned (.bool tF) ∧ Below W.heap.size W w'))
    (H0 : Hid (∀ W, Below w.heap.size w W → Calls Tryz.prog 14 #[.string x1] W fun e w' => e = .returned (.bool t0) ∧ Below W.heap.size W w'))
    (H1 : Hid (∀ W, Below w.heap.size w W → Calls Tryz.prog 19 #[.slice xa2 xn2 xc2] W fun e w' => e = .returned (.bool t1) ∧ Below W.heap.size W w'))
    (H2 : Hid (∀ W, Below w.heap.size w W → Calls Tryz.prog 20 #[.slice xa4 xn4 xc4] W fun e w' => e = .returned (.bool t2) ∧ Below W.heap.size W w')) :
    Calls Tryz.prog 11 #[.agg #[.int .u8 3, .string x1, .slice xa2 xn2 xc2, .slice xa3 xn3 xc3, .slice xa4 xn4 xc4, .slice xa5 xn5 xc5]] w fun e w' => e = .returned (.bool (!t0 || !t1 || tN || !t2 || tF)) ∧ Below w.heap.size w w' := by
  have i0 := has_0
  have i1 := has_1
  have i2 := has_2
  have i3 := has_3
  go_enter Tryz.func11, Tryz.ntmps11
  go_upto_region 2 with fail
  obtain ⟨w2, hw2⟩ : ∃ w2, (w.alloc (.cells #[.int .u8 3, .string x1, .slice xa2 xn2 xc2, .slice xa3 xn3 xc3, .slice xa4 xn4 xc4, .slice xa5 xn5 xc5] 33 (0, 0))).alloc (.cells #[.bool false, .bool false, .bool false, .bool true] 41 (0, 0)) = w2 := ⟨_, rfl⟩
  have HB2 : Hid (Below w.heap.size w w2) := Lib.hid (by rw [← hw2]; exact ((Below.refl _ _).alloc (Nat.le_refl _) _).alloc (by simp) _)
  have k1 : w2.heap[w.heap.size]? = some (.cells #[.int .u8 3, .string x1, .slice xa2 xn2 xc2, .slice xa3 xn3 xc3, .slice xa4 xn4 xc4, .slice xa5 xn5 xc5] 33 (0, 0)) := by rw [← hw2]; exact heap_old (heap_new _ _ _ rfl)
  have k2 : w2.heap[w.heap.size + 1]? = some (.cells #[.bool false, .bool false, .bool false, .bool true] 41 (0, 0)) := by rw [← hw2]; exact heap_new _ _ _ (by simp)
  have MK : Hid (∀ W, Below w2.heap.size w2 W → W.cell? ⟨w.heap.size, 0, none⟩ = some (.int .u8 3) ∧ W.cell? ⟨w.heap.size, 1, none⟩ = some (.string x1) ∧ W.cell? ⟨w.heap.size, 2, none⟩ = some (.slice xa2 xn2 xc2) ∧ W.cell? ⟨w.heap.size, 3, none⟩ = some (.slice xa3 xn3 xc3) ∧ W.cell? ⟨w.heap.size, 4, none⟩ = some (.slice xa4 xn4 xc4) ∧ W.cell? ⟨w.heap.size, 5, none⟩ = some (.slice xa5 xn5 xc5)) := Lib.hid fun W hW => ⟨(Lib.cell_of_heap ((hW.block _ (heap_lt k1)).trans k1) 0).trans rfl, (Lib.cell_of_heap ((hW.block _ (heap_lt k1)).trans k1) 1).trans rfl, (Lib.cell_of_heap ((hW.block _ (heap_lt k1)).trans k1) 2).trans rfl, (Lib.cell_of_heap ((hW.block _ (heap_lt k1)).trans k1) 3).trans rfl, (Lib.cell_of_heap ((hW.block _ (heap_lt k1)).trans k1) 4).trans rfl, (Lib.cell_of_heap ((hW.block _ (heap_lt k1)).trans k1) 5).trans rfl⟩
  obtain ⟨d0, d1, d2, d3, d4, d5⟩ := MK.out w2 (Below.refl _ _)
  have e0 : w2.cell? ⟨w.heap.size + 1, 0, none⟩ = some (.bool false) := (Lib.cell_of_heap k2 0).trans rfl
  have e1 : w2.cell? ⟨w.heap.size + 1, 1, none⟩ = some (.bool false) := (Lib.cell_of_heap k2 1).trans rfl
  have e2 : w2.cell? ⟨w.heap.size + 1, 2, none⟩ = some (.bool false) := (Lib.cell_of_heap k2 2).trans rfl
  have e3 : w2.cell? ⟨w.heap.size + 1, 3, none⟩ = some (.bool true) := (Lib.cell_of_heap k2 3).trans rfl
  have HBV : Hid (Below w2.heap.size w2 w2) := Lib.hid (Below.refl _ _)
  try rw [hw2]
  clear hw2 k1 k2
  go_wp2_with fail
  refine wp_loop_rounds 5 ?_
  repeat (first | (rw [rounds_succ]; go_wp2_with fail) | fail)
  refine (HN.out _ (HB2.out.trans (HBV.out.mono HB2.out.size))).mono ?_; rintro e w5 ⟨rfl, hb⟩
  have HBV2 : Hid (Below w2.heap.size w2 w5) := Lib.hid (HBV.out.trans (hb.mono HBV.out.size))
  obtain ⟨d0, d1, d2, d3, d4, d5⟩ := MK.out w5 HBV2.out
  clear HBV hb
  have HBV := HBV2
  clear HBV2
  go_wp2_with fail
  refine (HF.out _ (HB2.out.trans (HBV.out.mono HB2.out.size))).mono ?_; rintro e w5 ⟨rfl, hb⟩
  have HBV2 : Hid (Below w2.heap.size w2 w5) := Lib.hid (HBV.out.trans (hb.mono HBV.out.size))
  obtain ⟨d0, d1, d2, d3, d4, d5⟩ := MK.out w5 HBV2.out
  clear HBV hb
  have HBV := HBV2
  clear HBV2
  cases t0 with
  | false =>
    go_wp2_with fail
    refine (H0.out _ (HB2.out.trans (HBV.out.mono HB2.out.size))).mono ?_; rintro e w5 ⟨rfl, hb⟩
    have HBV2 : Hid (Below w2.heap.size w2 w5) := Lib.hid (HBV.out.trans (hb.mono HBV.out.size))
    obtain ⟨d0, d1, d2, d3, d4, d5⟩ := MK.out w5 HBV2.out
    clear HBV hb
    have HBV := HBV2
    clear HBV2
    go_wp2_with fail
    go_ret
    exact ⟨ret_b rfl, HB2.out.trans (HBV.out.mono HB2.out.size)⟩
  | true =>
    go_wp2_with fail
    refine (H0.out _ (HB2.out.trans (HBV.out.mono HB2.out.size))).mono ?_; rintro e w5 ⟨rfl, hb⟩
    have HBV2 : Hid (Below w2.heap.size w2 w5) := Lib.hid (HBV.out.trans (hb.mono HBV.out.size))
    obtain ⟨d0, d1, d2, d3, d4, d5⟩ := MK.out w5 HBV2.out
    clear HBV hb
    have HBV := HBV2
    clear HBV2
    cases t1 with
    | false =>
      go_wp2_with fail
      refine (H1.out _ (HB2.out.trans (HBV.out.mono HB2.out.size))).mono ?_; rintro e w5 ⟨rfl, hb⟩
      have HBV2 : Hid (Below w2.heap.size w2 w5) := Lib.hid (HBV.out.trans (hb.mono HBV.out.size))
      obtain ⟨d0, d1, d2, d3, d4, d5⟩ := MK.out w5 HBV2.out
      clear HBV hb
      have HBV := HBV2
      clear HBV2
      go_wp2_with fail
      go_ret
      exact ⟨ret_b rfl, HB2.out.trans (HBV.out.mono HB2.out.size)⟩
    | true =>
      go_wp2_with fail
      refine (H1.out _ (HB2.out.trans (HBV.out.mono HB2.out.size))).mono ?_; rintro e w5 ⟨rfl, hb⟩
      have HBV2 : Hid (Below w2.heap.size w2 w5) := Lib.hid (HBV.out.trans (hb.mono HBV.out.size))
      obtain ⟨d0, d1, d2, d3, d4, d5⟩ := MK.out w5 HBV2.out
      clear HBV hb
      have HBV := HBV2
      clear HBV2
      cases tN with
      | false =>
        cases t2 with
        | false =>
          go_wp2_with fail
          refine (H2.out _ (HB2.out.trans (HBV.out.mono HB2.out.size))).mono ?_; rintro e w5 ⟨rfl, hb⟩
          have HBV2 : Hid (Below w2.heap.size w2 w5) := Lib.hid (HBV.out.trans (hb.mono HBV.out.size))
          obtain ⟨d0, d1, d2, d3, d4, d5⟩ := MK.out w5 HBV2.out
          clear HBV hb
          have HBV := HBV2
          clear HBV2
          go_wp2_with fail
          go_ret
          exact ⟨ret_b rfl, HB2.out.trans (HBV.out.mono HB2.out.size)⟩
        | true =>
          go_wp2_with fail
          refine (H2.out _ (HB2.out.trans (HBV.out.mono HB2.out.size))).mono ?_; rintro e w5 ⟨rfl, hb⟩
          have HBV2 : Hid (Below w2.heap.size w2 w5) := Lib.hid (HBV.out.trans (hb.mono HBV.out.size))
          obtain ⟨d0, d1, d2, d3, d4, d5⟩ := MK.out w5 HBV2.out
          clear HBV hb
          have HBV := HBV2
          clear HBV2
          cases tF with
          | false =>
            go_wp2_with fail
            go_ret
            exact ⟨ret_b rfl, HB2.out.trans (HBV.out.mono HB2.out.size)⟩
          | true =>
            go_wp2_with fail
            go_ret
            exact ⟨ret_b rfl, HB2.out.trans (HBV.out.mono HB2.out.size)⟩
      | true =>
        go_wp2_with fail
        go_ret
        exact ⟨ret_b rfl, HB2.out.trans (HBV.out.mono HB2.out.size)⟩
/-- A definition that may be. -/
def dfnB (x : Dfn) : Bool := kindB (x.kind.toNat : Int) x.names.length x.inputs.length x.fields.length && nameB x.name && fixD' x.dirs && x.names.all enmB && x.inputs.all inpB && x.fields.all fldB
theorem all_any {α : Type} (L : List α) (p : α → Bool) : L.all p = !L.any fun x => !p x := by
  induction L with
  | nil => rfl
  | cons x r ih => rw [List.all_cons, List.any_cons, Bool.not_or, Bool.not_not, ih]
theorem slg_len {α : Type} {k : Nat} {E : Addr → α → World → Prop} {a : Option Addr} {n c : Nat} {L : List α} {w : World} (h : SlG k E (.slice a n c) L w) : n = L.length := by
  rcases h with ⟨_, _, e, rfl⟩ | ⟨_, _, _, e, _⟩
  · injection e with _ e2 _
  · injection e with _ e2 _
theorem scd_any (x : Dfn) (ev : Value) (w : World) (h : DfnV ev x w) (hs : DfnSm x) (hE : EnvU w) (hk : (x.kind.toNat : Int) = 1 ∨ (x.kind.toNat : Int) = 2 ∨ (x.kind.toNat : Int) = 3) :
    Calls Tryz.prog 11 #[ev] w fun e w' => e = .returned (.bool (!dfnB x)) ∧ Below w.heap.size w w' := by
  obtain ⟨_, _, _, _, _, _, _, _, _, _, _, _, rfl, h1, h2, h3, h4⟩ := h
  have l2 := slg_len h2
  have l3 := slg_len h3
  have l4 := slg_len h4
  cases hkb : kindB (x.kind.toNat : Int) x.names.length x.inputs.length x.fields.length with
  | false =>
    have hr : dfnB x = false := by unfold dfnB; rw [hkb]; rfl
    rw [hr]
    rw [← l2, ← l3, ← l4] at hkb
    exact scd_bad _ _ _ _ _ _ _ _ _ _ _ _ _ _ w hk hkb
  | true =>
    have hr : (!dfnB x) = (!nameB x.name || !fixD' x.dirs || (x.names.any fun s => !enmB s) || !x.inputs.all inpB || (x.fields.any fun f => !fldB f)) := by
      unfold dfnB
      rw [hkb, all_any x.names, all_any x.fields]
      cases nameB x.name <;> cases fixD' x.dirs <;> cases (x.names.any fun s => !enmB s) <;> cases x.inputs.all inpB <;> cases (x.fields.any fun f => !fldB f) <;> rfl
    rw [hr]
    rw [← l2, ← l3, ← l4] at hkb
    have HN := Lib.hid fun W (hW : Below w.heap.size w W) => snames_contains x.names _ W (NmsSl.below h2 hW) hs.2.2.1
    have HF := Lib.hid fun W (hW : Below w.heap.size w W) => sflds_contains x.fields _ W (FldSl.below h4 hW) hs.2.2.2.2 (hE.below hW)
    have H0 := Lib.hid fun W (hW : Below w.heap.size w W) => calls_below (lname_any ⟨x.name.toArray⟩ (by rw [← bsz]; exact hs.1) W)
    have H1 := Lib.hid fun W (hW : Below w.heap.size w W) => sdirsm_any _ _ W (DirSlc.below h1 hW) hs.2.1 (hE.below hW)
    have H2 := Lib.hid fun W (hW : Below w.heap.size w W) => sinputs_any _ _ W (InpSl.below h3 hW) hs.2.2.2.1 (hE.below hW)
    rcases hk with hk | hk | hk <;> rw [hk] at hkb ⊢ <;> unfold kindB at hkb
    · rw [if_pos rfl] at hkb
      simp only [Bool.and_eq_true, decide_eq_true_eq, Bool.not_eq_true', decide_eq_false_iff_not] at hkb
      exact scd_good1 _ _ _ _ _ _ _ _ _ _ _ _ _ w _ _ _ _ _ hkb.1.1 hkb.1.2 hkb.2 HN HF H0 H1 H2
    · rw [if_neg (by decide), if_pos rfl] at hkb
      simp only [Bool.and_eq_true, decide_eq_true_eq, Bool.not_eq_true', decide_eq_false_iff_not] at hkb
      exact scd_good2 _ _ _ _ _ _ _ _ _ _ _ _ _ w _ _ _ _ _ hkb.1.1 hkb.1.2 hkb.2 HN HF H0 H1 H2
    · rw [if_neg (by decide), if_neg (by decide), if_pos rfl] at hkb
      simp only [Bool.and_eq_true, decide_eq_true_eq, Bool.not_eq_true', decide_eq_false_iff_not] at hkb
      exact scd_good3 _ _ _ _ _ _ _ _ _ _ _ _ _ w _ _ _ _ _ hkb.1.1 hkb.1.2 hkb.2 HN HF H0 H1 H2
theorem scd_ent : ∀ args w, (callFunc 11 args).run Tryz.prog w = .ok (.enter 11 args) w := enters_of Tryz.func11 (by kernel_rfl) rfl
set_option maxRecDepth 100000 in
set_option maxHeartbeats 4000000 in
theorem sce_c (x0 : Int) (x1 : ByteArray) (xa2 : Option Addr) (xn2 xc2 : Nat) (xa3 : Option Addr) (xn3 xc3 : Nat) (xa4 : Option Addr) (xn4 xc4 : Nat) (xa5 : Option Addr) (xn5 xc5 : Nat) (bv : Nat) (t0 t1 t2 : Bool) (w : World)
    (hcap : w.cell? ⟨bv, 0, none⟩ = some (.func (.func 11) #[] #[]))
    (h0p : t0 = true → 3 < x0)
    (h0n : t0 = false → ¬ 3 < x0)
    (h1 : (x0 == 0) = t1)
    (H2 : Hid (t0 = false → t1 = false → ∀ W, Below w.heap.size w W → Calls Tryz.prog 11 #[.agg #[.int .u8 x0, .string x1, .slice xa2 xn2 xc2, .slice xa3 xn3 xc3, .slice xa4 xn4 xc4, .slice xa5 xn5 xc5]] W fun e w' => e = .returned (.bool t2) ∧ Below W.heap.size W w')) :
    Calls Tryz.prog 22 #[.agg #[.int .u8 x0, .string x1, .slice xa2 xn2 xc2, .slice xa3 xn3 xc3, .slice xa4 xn4 xc4, .slice xa5 xn5 xc5], .pointer (some ⟨bv, 0, none⟩)] w fun e w' => e = .returned (.bool (t0 || t1 || t2)) ∧ Below w.heap.size w w' := by
  go_enter Tryz.func22, Tryz.ntmps22
  go_upto_region 1 with fail
  obtain ⟨w2, hw2⟩ : ∃ w2, w.alloc (.cells #[.int .u8 x0, .string x1, .slice xa2 xn2 xc2, .slice xa3 xn3 xc3, .slice xa4 xn4 xc4, .slice xa5 xn5 xc5] 33 (0, 0)) = w2 := ⟨_, rfl⟩
  have HB2 : Hid (Below w.heap.size w w2) := Lib.hid (by rw [← hw2]; exact (Below.refl _ _).alloc (Nat.le_refl _) _)
  have k1 : w2.heap[w.heap.size]? = some (.cells #[.int .u8 x0, .string x1, .slice xa2 xn2 xc2, .slice xa3 xn3 xc3, .slice xa4 xn4 xc4, .slice xa5 xn5 xc5] 33 (0, 0)) := by rw [← hw2]; exact heap_new _ _ _ rfl
  have MK : Hid (∀ W, Below w2.heap.size w2 W → W.cell? ⟨w.heap.size, 0, none⟩ = some (.int .u8 x0) ∧ W.cell? ⟨w.heap.size, 1, none⟩ = some (.string x1) ∧ W.cell? ⟨w.heap.size, 2, none⟩ = some (.slice xa2 xn2 xc2) ∧ W.cell? ⟨w.heap.size, 3, none⟩ = some (.slice xa3 xn3 xc3) ∧ W.cell? ⟨w.heap.size, 4, none⟩ = some (.slice xa4 xn4 xc4) ∧ W.cell? ⟨w.heap.size, 5, none⟩ = some (.slice xa5 xn5 xc5) ∧ W.cell? ⟨bv, 0, none⟩ = some (.func (.func 11) #[] #[])) := Lib.hid fun W hW => ⟨(Lib.cell_of_heap ((hW.block _ (heap_lt k1)).trans k1) 0).trans rfl, (Lib.cell_of_heap ((hW.block _ (heap_lt k1)).trans k1) 1).trans rfl, (Lib.cell_of_heap ((hW.block _ (heap_lt k1)).trans k1) 2).trans rfl, (Lib.cell_of_heap ((hW.block _ (heap_lt k1)).trans k1) 3).trans rfl, (Lib.cell_of_heap ((hW.block _ (heap_lt k1)).trans k1) 4).trans rfl, (Lib.cell_of_heap ((hW.block _ (heap_lt k1)).trans k1) 5).trans rfl, (hW.cell (p := ⟨_, _, none⟩) (Nat.lt_of_lt_of_le (lt_of_cell hcap) HB2.out.size)).trans ((HB2.out.cell (p := ⟨_, _, none⟩) (lt_of_cell hcap)).trans hcap)⟩
  obtain ⟨d0, d1, d2, d3, d4, d5, dv⟩ := MK.out w2 (Below.refl _ _)
  have HBV : Hid (Below w2.heap.size w2 w2) := Lib.hid (Below.refl _ _)
  try rw [hw2]
  clear hw2 k1 hcap
  have eg := scd_ent
  cases t0 with
  | false =>
    have hg := h0n rfl
    cases t1 with
    | false =>
      have H3 := Lib.hid (H2.out rfl rfl)
      go_wp2_with fail
      refine (H3.out _ (HB2.out.trans (HBV.out.mono HB2.out.size))).mono ?_; rintro e w5 ⟨rfl, hb⟩
      have HBV2 : Hid (Below w2.heap.size w2 w5) := Lib.hid (HBV.out.trans (hb.mono HBV.out.size))
      obtain ⟨d0, d1, d2, d3, d4, d5, dv⟩ := MK.out w5 HBV2.out
      clear HBV hb
      have HBV := HBV2
      clear HBV2
      go_wp2_with fail
      go_ret
      exact ⟨ret_b rfl, HB2.out.trans (HBV.out.mono HB2.out.size)⟩
    | true =>
      go_wp2_with fail
      go_ret
      exact ⟨ret_b rfl, HB2.out.trans (HBV.out.mono HB2.out.size)⟩
  | true =>
    have hg := h0p rfl
    go_wp2_with fail
    go_ret
    exact ⟨ret_b rfl, HB2.out.trans (HBV.out.mono HB2.out.size)⟩
theorem sce_ent : ∀ args w, (callFunc 22 args).run Tryz.prog w = .ok (.enter 22 args) w := enters_of Tryz.func22 (by kernel_rfl) rfl
theorem sce_any (bv : Nat) (x : Dfn) (ev : Value) (w : World) (hcap : w.cell? ⟨bv, 0, none⟩ = some (.func (.func 11) #[] #[])) (h : DfnV ev x w) (hs : DfnSm x) (hE : EnvU w) :
    Calls Tryz.prog 22 #[ev, .pointer (some ⟨bv, 0, none⟩)] w fun e w' => e = .returned (.bool (!dfnB x)) ∧ Below w.heap.size w w' := by
  have h' := h
  obtain ⟨_, _, _, _, _, _, _, _, _, _, _, _, rfl, h1, h2, h3, h4⟩ := h
  have hr : (!dfnB x) = (decide (3 < (x.kind.toNat : Int)) || ((x.kind.toNat : Int) == 0) || !dfnB x) := by
    by_cases hk : (x.kind.toNat : Int) = 1 ∨ (x.kind.toNat : Int) = 2 ∨ (x.kind.toNat : Int) = 3
    · have a1 : decide (3 < (x.kind.toNat : Int)) = false := decide_eq_false (by omega)
      have a2 : ((x.kind.toNat : Int) == 0) = false := beq_eq_false_iff_ne.2 (by omega)
      rw [a1, a2]; rfl
    · have : dfnB x = false := by
        unfold dfnB kindB
        rw [if_neg (by omega), if_neg (by omega), if_neg (by omega)]; rfl
      rw [this]; simp
  rw [hr]
  refine sce_c _ _ _ _ _ _ _ _ _ _ _ _ _ _ bv _ _ _ w hcap (fun h => by simpa using h) (fun h => by simpa using h) rfl (Lib.hid fun e0 e1 W hW => ?_)
  have e0' : ¬ 3 < (x.kind.toNat : Int) := of_decide_eq_false e0
  have e1' : ¬ (x.kind.toNat : Int) = 0 := beq_eq_false_iff_ne.1 e1
  exact scd_any x _ W (h'.below hW) hs (hE.below hW) (by omega)
/-- Definitions that may be. -/
def defsB (L : List Dfn) : Bool := !L.isEmpty && L.all dfnB
set_option maxRecDepth 100000 in
theorem schk_c (v : Option Addr) (n c : Nat) (r q : Bool) (w : World) (hq : (n == 0) = q) (HC : Hid (∀ (W : World) (bv : Nat), Below w.heap.size w W → W.cell? ⟨bv, 0, none⟩ = some (.func (.func 11) #[] #[]) → Calls Tryz.prog 21 #[.slice v n c, .func (.func 22) #[] #[.pointer (some ⟨bv, 0, none⟩)]] W fun e w' => e = .returned (.bool r) ∧ Below W.heap.size W w')) :
    Calls Tryz.prog 5 #[.slice v n c] w fun e w' => e = .returned (.int .i64 (if !q && !r then 0 else 8)) ∧ Below w.heap.size w w' := by
  go_enter Tryz.func5, Tryz.ntmps5
  go_upto_region 2 with fail
  obtain ⟨w2, hw2⟩ : ∃ w2, w.alloc (.cells #[.func (.func 11) #[] #[]] 47 (0, 0)) = w2 := ⟨_, rfl⟩
  have HB2 : Hid (Below w.heap.size w w2) := Lib.hid (by rw [← hw2]; exact (Below.refl _ _).alloc (Nat.le_refl _) _)
  have k1 : w2.heap[w.heap.size]? = some (.cells #[.func (.func 11) #[] #[]] 47 (0, 0)) := by rw [← hw2]; exact heap_new _ _ _ rfl
  have d0 : w2.cell? ⟨w.heap.size, 0, none⟩ = some (.func (.func 11) #[] #[]) := (Lib.cell_of_heap k1 0).trans rfl
  have HC2 := Lib.hid (HC.out w2 w.heap.size HB2.out d0)
  try rw [hw2]
  clear hw2 k1 d0 HC
  by_cases h0 : n = 0
  · have hq2 : q = true := by rw [← hq, h0]; rfl
    subst hq2 h0
    go_wp2_with fail
    go_ret
    exact ⟨rfl, HB2.out⟩
  · have hq2 : q = false := by rw [← hq]; exact beq_eq_false_iff_ne.2 h0
    subst hq2
    have hi0 : ((n : Int) == 0) = false := beq_eq_false_iff_ne.2 (by omega)
    have hi1 : ¬ (n : Int) = 0 := by omega
    cases r with
    | false =>
      go_wp2_with fail
      refine HC2.out.mono ?_; rintro e w3 ⟨rfl, hb⟩
      have HB3 := Lib.hid (HB2.out.trans (hb.mono HB2.out.size))
      clear hb
      go_wp2_with fail
      go_ret
      exact ⟨rfl, HB3.out⟩
    | true =>
      go_wp2_with fail
      refine HC2.out.mono ?_; rintro e w3 ⟨rfl, hb⟩
      have HB3 := Lib.hid (HB2.out.trans (hb.mono HB2.out.size))
      clear hb
      go_wp2_with fail
      go_ret
      exact ⟨rfl, HB3.out⟩
theorem schk_any (L : List Dfn) (a : Option Addr) (n c : Nat) (w : World) (hv : DfnSl (.slice a n c) L w) (hs : DfnsSm L) (hE : EnvU w) :
    Calls Tryz.prog 5 #[.slice a n c] w fun e w' => e = .returned (.int .i64 (if defsB L then 0 else 8)) ∧ Below w.heap.size w w' := by
  have hr : defsB L = (!(n == 0) && !L.any fun x => !dfnB x) := by
    unfold defsB
    rw [slg_len hv, all_any]
    cases L <;> rfl
  rw [hr]
  exact schk_c a n c _ _ w rfl (Lib.hid fun W bv hW hc => dfn_contains _ #[.pointer (some ⟨bv, 0, none⟩)] sce_ent (fun x => !dfnB x) L _ W (DfnSl.below hv hW) hs.1 (Lib.hid fun W' k hk ev hev hb => sce_any bv _ ev W' ((hb.cell (p := ⟨_, _, none⟩) (lt_of_cell hc)).trans hc) hev (hs.2 _ (List.getElem_mem hk)) (hE.below (hW.trans (hb.mono hW.size)))))
end Go.Proofs.YtgacpmdebjndkaaGreatDoor
