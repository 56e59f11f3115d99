/- The reference's fixed, MayInput, inputs (doc, sdl). -/
import Derived.Test.YtbejhdhhkpllfaaGreatDoorDn
set_option linter.unusedSimpArgs false
set_option linter.unusedVariables false
namespace Go.Proofs.YtbejhdhhkpllfaaGreatDoor
open Go.RowKit
set_option maxRecDepth 100000 in
set_option maxHeartbeats 2000000 in
theorem rfx_row (V : List Cel) (b off cap : Nat) (hl : V.length ≤ 100000) (w : World) (hrow : CelRow b off V w) :
    Calls Tryz.prog 68 #[.slice (some ⟨b, off, none⟩) V.length cap] w fun e w' => e = .returned (.bool (!V.any isV)) ∧ Below w.heap.size w w' := by
  have HROW := Lib.hid hrow
  obtain ⟨Z, hZ⟩ : ∃ Z, V.any isV = Z := ⟨_, rfl⟩
  have HZ0 : Hid ((V.drop 0).any isV = Z) := Lib.hid hZ
  rw [hZ]
  obtain ⟨n, hn⟩ : ∃ n, V.length = n := ⟨_, rfl⟩
  have HN := Lib.hid hn
  rw [hn] at hl ⊢
  clear hrow hZ hn
  go_enter Tryz.func68, Tryz.ntmps68
  go_wp2_with fail
  go_loopw [3] (fun iv wr => ∃ k : Nat, k ≤ n ∧ iv = .int .i64 (k : Int) ∧ Hid ((V.drop k).any isV = Z) ∧ w = wr) (fun iv wr => n - (intOf iv).toNat)
  case atStart => exact ⟨0, Nat.zero_le _, rfl, HZ0, rfl⟩
  case round =>
    clear HZ0
    rename World => wr
    obtain ⟨k, hk, rfl, HQ, rfl⟩ := hrel
    by_cases hlt : k < n
    · have hil : k < V.length := by have := HN.out; omega
      obtain ⟨a0, a1, a2, a3, a4⟩ := HROW.out k hil
      have hq := HQ.out
      rw [List.drop_eq_getElem_cons hil, List.any_cons] at hq
      have hkd : isV V[k] = ((V[k].kind.toNat : Int) == 5) := by unfold isV; rw [kind_eq]; rfl
      rw [hkd] at hq
      have i1 : (k : Int).toNat = k := by omega
      have i2 : (0 : Int) ≤ (k : Int) := by omega
      have i3 : (k : Int) < (n : Int) := by omega
      generalize (V[k].kind.toNat : Int) = ki at *
      clear hkd HQ a1 a2 a3 a4
      by_cases h5 : ki = 5
      · have HF : Hid (false = !Z) := Lib.hid (by rw [← hq, h5]; rfl)
        subst h5
        clear hq
        go_wp2_with fail
        go_ret
        exact ⟨ret_b HF.out, Below.refl _ _⟩
      · have h5b : (ki == 5) = false := beq_eq_false_iff_ne.2 h5
        have HF : Hid ((V.drop (k + 1)).any isV = Z) := Lib.hid (by rw [← hq, h5b]; rfl)
        clear hq
        go_wp2_with fail
        go_roundw
        case rel => exact ⟨k + 1, by omega, by go_num, HF, by first | rfl | trivial⟩
        case measure => simp [intOf]; omega
    · have HF : Hid (true = !Z) := Lib.hid (by rw [← HQ.out, List.drop_of_length_le (by have := HN.out; omega)]; rfl)
      clear HQ
      go_wp2_with fail
      go_ret
      exact ⟨ret_b HF.out, Below.refl _ _⟩
set_option maxRecDepth 100000 in
theorem rfx_none (a : Option Addr) (c : Nat) (w : World) :
    Calls Tryz.prog 68 #[.slice a 0 c] w fun e w' => e = .returned (.bool true) ∧ Below w.heap.size w w' := by
  go_enter Tryz.func68, Tryz.ntmps68
  go_wp2_with fail
  refine wp_loop_rounds 1 ?_; rw [rounds_succ]
  go_wp2_with fail
  go_ret
  exact ⟨rfl, Below.refl _ _⟩
theorem rfx_any (V : List Cel) (v : Value) (w : World) (hv : CelSl v V w) (hl : V.length ≤ 100000) :
    Calls Tryz.prog 68 #[v] w fun e w' => e = .returned (.bool (!V.any isV)) ∧ Below w.heap.size w w' := by
  rcases hv with ⟨a, c, rfl, rfl, _⟩ | ⟨b, off, cap, rfl, hrow, _⟩
  · exact rfx_none a c w
  · exact rfx_row V b off cap hl w hrow
set_option maxRecDepth 100000 in
set_option maxHeartbeats 4000000 in
theorem rmi_c (x0 : ByteArray) (x1 : ByteArray) (xa2 : Option Addr) (xn2 xc2 : Nat) (x3 : Bool) (xa4 : Option Addr) (xn4 xc4 : Nat) (xa5 : Option Addr) (xn5 xc5 : Nat) (t0 t1 t3 t4 t5 : Bool) (w : World)
    (H0 : Hid (∀ W, Below w.heap.size w W → Calls Tryz.prog 44 #[.string x0] W fun e w' => e = .returned (.bool t0) ∧ Below W.heap.size W w'))
    (H1 : Hid (∀ W, Below w.heap.size w W → Calls Tryz.prog 66 #[.agg #[.string x1, .slice xa2 xn2 xc2]] W fun e w' => e = .returned (.bool t1) ∧ Below W.heap.size W w'))
    (H3 : Hid (∀ W, Below w.heap.size w W → Calls Tryz.prog 67 #[.slice xa4 xn4 xc4] W fun e w' => e = .returned (.bool t3) ∧ Below W.heap.size W w'))
    (h4 : (xn4 == 0) = t4)
    (H5 : Hid (∀ W, Below w.heap.size w W → Calls Tryz.prog 68 #[.slice xa4 xn4 xc4] W fun e w' => e = .returned (.bool t5) ∧ Below W.heap.size W w')) :
    Calls Tryz.prog 46 #[.agg #[.string x0, .string x1, .slice xa2 xn2 xc2, .bool x3, .slice xa4 xn4 xc4, .slice xa5 xn5 xc5]] w fun e w' => e = .returned (.bool (t0 && t1 && cond x3 (t3 && t5) t4)) ∧ Below w.heap.size w w' := by
  go_enter Tryz.func46, Tryz.ntmps46
  go_upto_region 1 with fail
  obtain ⟨w2, hw2⟩ : ∃ w2, w.alloc (.cells #[.string x0, .string x1, .slice xa2 xn2 xc2, .bool x3, .slice xa4 xn4 xc4, .slice xa5 xn5 xc5] 48 (0, 0)) = w2 := ⟨_, rfl⟩
  have HB2 : Hid (Below w.heap.size w w2) := Lib.hid (by rw [← hw2]; exact (Below.refl _ _).alloc (Nat.le_refl _) _)
  have k1 : w2.heap[w.heap.size]? = some (.cells #[.string x0, .string x1, .slice xa2 xn2 xc2, .bool x3, .slice xa4 xn4 xc4, .slice xa5 xn5 xc5] 48 (0, 0)) := by rw [← hw2]; exact heap_new _ _ _ rfl
  have MK : Hid (∀ W, Below w2.heap.size w2 W → W.cell? ⟨w.heap.size, 0, none⟩ = some (.string x0) ∧ W.cell? ⟨w.heap.size, 1, none⟩ = some (.string x1) ∧ W.cell? ⟨w.heap.size, 2, none⟩ = some (.slice xa2 xn2 xc2) ∧ W.cell? ⟨w.heap.size, 3, none⟩ = some (.bool x3) ∧ W.cell? ⟨w.heap.size, 4, none⟩ = some (.slice xa4 xn4 xc4) ∧ W.cell? ⟨w.heap.size, 5, none⟩ = some (.slice xa5 xn5 xc5)) := Lib.hid fun W hW => ⟨(Lib.cell_of_heap ((hW.block _ (heap_lt k1)).trans k1) 0).trans rfl, (Lib.cell_of_heap ((hW.block _ (heap_lt k1)).trans k1) 1).trans rfl, (Lib.cell_of_heap ((hW.block _ (heap_lt k1)).trans k1) 2).trans rfl, (Lib.cell_of_heap ((hW.block _ (heap_lt k1)).trans k1) 3).trans rfl, (Lib.cell_of_heap ((hW.block _ (heap_lt k1)).trans k1) 4).trans rfl, (Lib.cell_of_heap ((hW.block _ (heap_lt k1)).trans k1) 5).trans rfl⟩
  obtain ⟨d0, d1, d2, d3, d4, d5⟩ := MK.out w2 (Below.refl _ _)
  have HBV : Hid (Below w2.heap.size w2 w2) := Lib.hid (Below.refl _ _)
  try rw [hw2]
  clear hw2 k1
  cases t0 with
  | false =>
    go_wp2_with fail
    refine (H0.out _ (HB2.out.trans (HBV.out.mono HB2.out.size))).mono ?_; rintro e w5 ⟨rfl, hb⟩
    have HBV2 : Hid (Below w2.heap.size w2 w5) := Lib.hid (HBV.out.trans (hb.mono HBV.out.size))
    obtain ⟨d0, d1, d2, d3, d4, d5⟩ := MK.out w5 HBV2.out
    clear HBV hb
    have HBV := HBV2
    clear HBV2
    go_wp2_with fail
    go_ret
    exact ⟨ret_b rfl, HB2.out.trans (HBV.out.mono HB2.out.size)⟩
  | true =>
    go_wp2_with fail
    refine (H0.out _ (HB2.out.trans (HBV.out.mono HB2.out.size))).mono ?_; rintro e w5 ⟨rfl, hb⟩
    have HBV2 : Hid (Below w2.heap.size w2 w5) := Lib.hid (HBV.out.trans (hb.mono HBV.out.size))
    obtain ⟨d0, d1, d2, d3, d4, d5⟩ := MK.out w5 HBV2.out
    clear HBV hb
    have HBV := HBV2
    clear HBV2
    cases t1 with
    | false =>
      go_wp2_with fail
      refine (H1.out _ (HB2.out.trans (HBV.out.mono HB2.out.size))).mono ?_; rintro e w5 ⟨rfl, hb⟩
      have HBV2 : Hid (Below w2.heap.size w2 w5) := Lib.hid (HBV.out.trans (hb.mono HBV.out.size))
      obtain ⟨d0, d1, d2, d3, d4, d5⟩ := MK.out w5 HBV2.out
      clear HBV hb
      have HBV := HBV2
      clear HBV2
      go_wp2_with fail
      go_ret
      exact ⟨ret_b rfl, HB2.out.trans (HBV.out.mono HB2.out.size)⟩
    | true =>
      go_wp2_with fail
      refine (H1.out _ (HB2.out.trans (HBV.out.mono HB2.out.size))).mono ?_; rintro e w5 ⟨rfl, hb⟩
      have HBV2 : Hid (Below w2.heap.size w2 w5) := Lib.hid (HBV.out.trans (hb.mono HBV.out.size))
      obtain ⟨d0, d1, d2, d3, d4, d5⟩ := MK.out w5 HBV2.out
      clear HBV hb
      have HBV := HBV2
      clear HBV2
      cases x3 with
      | false =>
        cases t4 with
        | false =>
          have hne : ¬ xn4 = 0 := beq_eq_false_iff_ne.1 h4
          have hni : ((xn4 : Int) == 0) = false := beq_eq_false_iff_ne.2 (by omega)
          go_wp2_with fail
          go_ret
          exact ⟨ret_b rfl, HB2.out.trans (HBV.out.mono HB2.out.size)⟩
        | true =>
          have hne : xn4 = 0 := beq_iff_eq.1 h4
          have hni : ((xn4 : Int) == 0) = true := beq_iff_eq.2 (by omega)
          go_wp2_with fail
          go_ret
          exact ⟨ret_b rfl, HB2.out.trans (HBV.out.mono HB2.out.size)⟩
      | true =>
        cases t3 with
        | false =>
          go_wp2_with fail
          refine (H3.out _ (HB2.out.trans (HBV.out.mono HB2.out.size))).mono ?_; rintro e w5 ⟨rfl, hb⟩
          have HBV2 : Hid (Below w2.heap.size w2 w5) := Lib.hid (HBV.out.trans (hb.mono HBV.out.size))
          obtain ⟨d0, d1, d2, d3, d4, d5⟩ := MK.out w5 HBV2.out
          clear HBV hb
          have HBV := HBV2
          clear HBV2
          go_wp2_with fail
          go_ret
          exact ⟨ret_b rfl, HB2.out.trans (HBV.out.mono HB2.out.size)⟩
        | true =>
          go_wp2_with fail
          refine (H3.out _ (HB2.out.trans (HBV.out.mono HB2.out.size))).mono ?_; rintro e w5 ⟨rfl, hb⟩
          have HBV2 : Hid (Below w2.heap.size w2 w5) := Lib.hid (HBV.out.trans (hb.mono HBV.out.size))
          obtain ⟨d0, d1, d2, d3, d4, d5⟩ := MK.out w5 HBV2.out
          clear HBV hb
          have HBV := HBV2
          clear HBV2
          cases t5 with
          | false =>
            go_wp2_with fail
            refine (H5.out _ (HB2.out.trans (HBV.out.mono HB2.out.size))).mono ?_; rintro e w5 ⟨rfl, hb⟩
            have HBV2 : Hid (Below w2.heap.size w2 w5) := Lib.hid (HBV.out.trans (hb.mono HBV.out.size))
            obtain ⟨d0, d1, d2, d3, d4, d5⟩ := MK.out w5 HBV2.out
            clear HBV hb
            have HBV := HBV2
            clear HBV2
            go_wp2_with fail
            go_ret
            exact ⟨ret_b rfl, HB2.out.trans (HBV.out.mono HB2.out.size)⟩
          | true =>
            go_wp2_with fail
            refine (H5.out _ (HB2.out.trans (HBV.out.mono HB2.out.size))).mono ?_; rintro e w5 ⟨rfl, hb⟩
            have HBV2 : Hid (Below w2.heap.size w2 w5) := Lib.hid (HBV.out.trans (hb.mono HBV.out.size))
            obtain ⟨d0, d1, d2, d3, d4, d5⟩ := MK.out w5 HBV2.out
            clear HBV hb
            have HBV := HBV2
            clear HBV2
            go_wp2_with fail
            go_ret
            exact ⟨ret_b rfl, HB2.out.trans (HBV.out.mono HB2.out.size)⟩
def mayI (x : Inp) : Bool := nameB x.name && ttB x.tnm x.wr && cond x.has (litB x.dflt && !x.dflt.any isV) x.dflt.isEmpty
theorem inpB_may (x : Inp) : inpB x = (mayI x && fixD' x.dirs) := by
  unfold inpB mayI
  rw [fixV_lit]
  cases nameB x.name <;> cases ttB x.tnm x.wr <;> cases fixD' x.dirs <;> cases (cond x.has (litB x.dflt && !x.dflt.any isV) x.dflt.isEmpty) <;> rfl
theorem rmi_any (x : Inp) (ev : Value) (w : World) (h : InpV ev x w) (hs : InpSm x) :
    Calls Tryz.prog 46 #[ev] w fun e w' => e = .returned (.bool (mayI x)) ∧ Below w.heap.size w w' := by
  obtain ⟨_, _, _, _, _, _, _, _, _, rfl, h1, h2, h3⟩ := h
  refine rmi_c _ _ _ _ _ _ _ _ _ _ _ _ _ _ _ _ _ w ?_ ?_ ?_ ?_ ?_
  · exact Lib.hid fun W _ => calls_below (rname_big _ (by rw [← bsz]; exact hs.1) W)
  · exact Lib.hid fun W hW => by
      have := rmt_big ⟨x.tnm.toArray⟩ x.wr _ W (h1.below hW) (by rw [← bsz]; exact hs.2.1)
      exact this
  · exact Lib.hid fun W hW => mayval_any _ _ W (h2.below hW) hs.2.2.2.1
  · rw [celsl_len h2]
    cases x.dflt <;> rfl
  · exact Lib.hid fun W hW => rfx_any _ _ W (h2.below hW) hs.2.2.2.1.1
/-- Is there a variable in directives? -/
def argV (a : ArgD) : Bool := a.2.any isV
def dirV (d : DirD) : Bool := d.2.any argV
def hasV (D : List DirD) : Bool := D.any dirV
theorem fixD_dir (D : List DirD) : fixD' D = (!hasV D && D.all dirB) := by
  unfold fixD' hasV
  induction D with
  | nil => rfl
  | cons d r ih =>
    rw [List.all_cons, List.any_cons, List.all_cons, ih]
    have e : fixD1 d = (dirB d && !dirV d) := by
      unfold fixD1 dirB dirV fixA
      rw [Bool.and_assoc]; rfl
    rw [e]
    cases dirB d <;> cases dirV d <;> cases r.any dirV <;> cases r.all dirB <;> rfl
theorem xsl_len {α : Type} {Sl : Value → α → World → Prop} {a : Option Addr} {n c : Nat} {L : List (List UInt8 × α)} {w : World} (h : XSl Sl (.slice a n c) L w) : n = L.length := by
  rcases h with ⟨_, _, e, rfl⟩ | ⟨_, _, _, e, _⟩
  · injection e with _ e2 _
  · injection e with _ e2 _
end Go.Proofs.YtbejhdhhkpllfaaGreatDoor
