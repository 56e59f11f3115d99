/- The reference's fixed, MayInput, inputs (doc, sdl). -/
import Derived.Test.YtgacpmdebjndkaaGreatDoorDn
set_option linter.unusedSimpArgs false
set_option linter.unusedVariables false
namespace Go.Proofs.YtgacpmdebjndkaaGreatDoor
open Go.RowKit
set_option maxRecDepth 100000 in
set_option maxHeartbeats 2000000 in
theorem rfx_row (V : List Cel) (b off cap : Nat) (hl : V.length ≤ 100000) (w : World) (hrow : CelRow b off V w) :
    Calls Tryz.prog 86 #[.slice (some ⟨b, off, none⟩) V.length cap] w fun e w' => e = .returned (.bool (!V.any isV)) ∧ Below w.heap.size w w' := by
  have HROW := Lib.hid hrow
  obtain ⟨Z, hZ⟩ : ∃ Z, V.any isV = Z := ⟨_, rfl⟩
  have HZ0 : Hid ((V.drop 0).any isV = Z) := Lib.hid hZ
  rw [hZ]
  obtain ⟨n, hn⟩ : ∃ n, V.length = n := ⟨_, rfl⟩
  have HN := Lib.hid hn
  rw [hn] at hl ⊢
  clear hrow hZ hn
  go_enter Tryz.func86, Tryz.ntmps86
  go_wp2_with fail
  go_loopw [3] (fun iv wr => ∃ k : Nat, k ≤ n ∧ iv = .int .i64 (k : Int) ∧ Hid ((V.drop k).any isV = Z) ∧ w = wr) (fun iv wr => n - (intOf iv).toNat)
  case atStart => exact ⟨0, Nat.zero_le _, rfl, HZ0, rfl⟩
  case round =>
    clear HZ0
    rename World => wr
    obtain ⟨k, hk, rfl, HQ, rfl⟩ := hrel
    by_cases hlt : k < n
    · have hil : k < V.length := by have := HN.out; omega
      obtain ⟨a0, a1, a2, a3, a4⟩ := HROW.out k hil
      have hq := HQ.out
      rw [List.drop_eq_getElem_cons hil, List.any_cons] at hq
      have hkd : isV V[k] = ((V[k].kind.toNat : Int) == 5) := by unfold isV; rw [kind_eq]; rfl
      rw [hkd] at hq
      have i1 : (k : Int).toNat = k := by omega
      have i2 : (0 : Int) ≤ (k : Int) := by omega
      have i3 : (k : Int) < (n : Int) := by omega
      generalize (V[k].kind.toNat : Int) = ki at *
      clear hkd HQ a1 a2 a3 a4
      by_cases h5 : ki = 5
      · have HF : Hid (false = !Z) := Lib.hid (by rw [← hq, h5]; rfl)
        subst h5
        clear hq
        go_wp2_with fail
        go_ret
        exact ⟨ret_b HF.out, Below.refl _ _⟩
      · have h5b : (ki == 5) = false := beq_eq_false_iff_ne.2 h5
        have HF : Hid ((V.drop (k + 1)).any isV = Z) := Lib.hid (by rw [← hq, h5b]; rfl)
        clear hq
        go_wp2_with fail
        go_roundw
        case rel => exact ⟨k + 1, by omega, by go_num, HF, by first | rfl | trivial⟩
        case measure => simp [intOf]; omega
    · have HF : Hid (true = !Z) := Lib.hid (by rw [← HQ.out, List.drop_of_length_le (by have := HN.out; omega)]; rfl)
      clear HQ
      go_wp2_with fail
      go_ret
      exact ⟨ret_b HF.out, Below.refl _ _⟩
set_option maxRecDepth 100000 in
theorem rfx_none (a : Option Addr) (c : Nat) (w : World) :
    Calls Tryz.prog 86 #[.slice a 0 c] w fun e w' => e = .returned (.bool true) ∧ Below w.heap.size w w' := by
  go_enter Tryz.func86, Tryz.ntmps86
  go_wp2_with fail
  refine wp_loop_rounds 1 ?_; rw [rounds_succ]
  go_wp2_with fail
  go_ret
  exact ⟨rfl, Below.refl _ _⟩
theorem rfx_any (V : List Cel) (v : Value) (w : World) (hv : CelSl v V w) (hl : V.length ≤ 100000) :
    Calls Tryz.prog 86 #[v] w fun e w' => e = .returned (.bool (!V.any isV)) ∧ Below w.heap.size w w' := by
  rcases hv with ⟨a, c, rfl, rfl, _⟩ | ⟨b, off, cap, rfl, hrow, _⟩
  · exact rfx_none a c w
  · exact rfx_row V b off cap hl w hrow
set_option maxRecDepth 100000 in
set_option maxHeartbeats 4000000 in
theorem rmi_c (x0 : ByteArray) (x1 : ByteArray) (xa2 : Option Addr) (xn2 xc2 : Nat) (x3 : Bool) (xa4 : Option Addr) (xn4 xc4 : Nat) (xa5 : Option Addr) (xn5 xc5 : Nat) (t0 t1 t3 t4 t5 : Bool) (w : World)
    (H0 : Hid (∀ W, Below w.heap.size w W → Calls Tryz.prog 70 #[.string x0] W fun e w' => e = .returned (.bool t0) ∧ Below W.heap.size W w'))
    (H1 : Hid (∀ W, Below w.heap.size w W → Calls Tryz.prog 74 #[.agg #[.string x1, .slice xa2 xn2 xc2]] W fun e w' => e = .returned (.bool t1) ∧ Below W.heap.size W w'))
    (H3 : Hid (∀ W, Below w.heap.size w W → Calls Tryz.prog 85 #[.slice xa4 xn4 xc4] W fun e w' => e = .returned (.bool t3) ∧ Below W.heap.size W w'))
    (h4 : (xn4 == 0) = t4)
    (H5 : Hid (∀ W, Below w.heap.size w W → Calls Tryz.prog 86 #[.slice xa4 xn4 xc4] W fun e w' => e = .returned (.bool t5) ∧ Below W.heap.size W w')) :
    Calls Tryz.prog 80 #[.agg #[.string x0, .string x1, .slice xa2 xn2 xc2, .bool x3, .slice xa4 xn4 xc4, .slice xa5 xn5 xc5]] w fun e w' => e = .returned (.bool (t0 && t1 && cond x3 (t3 && t5) t4)) ∧ Below w.heap.size w w' := by
  go_enter Tryz.func80, Tryz.ntmps80
  go_upto_region 1 with fail
  obtain ⟨w2, hw2⟩ : ∃ w2, w.alloc (.cells #[.string x0, .string x1, .slice xa2 xn2 xc2, .bool x3, .slice xa4 xn4 xc4, .slice xa5 xn5 xc5] 71 (0, 0)) = w2 := ⟨_, rfl⟩
  have HB2 : Hid (Below w.heap.size w w2) := Lib.hid (by rw [← hw2]; exact (Below.refl _ _).alloc (Nat.le_refl _) _)
  have k1 : w2.heap[w.heap.size]? = some (.cells #[.string x0, .string x1, .slice xa2 xn2 xc2, .bool x3, .slice xa4 xn4 xc4, .slice xa5 xn5 xc5] 71 (0, 0)) := by rw [← hw2]; exact heap_new _ _ _ rfl
  have MK : Hid (∀ W, Below w2.heap.size w2 W → W.cell? ⟨w.heap.size, 0, none⟩ = some (.string x0) ∧ W.cell? ⟨w.heap.size, 1, none⟩ = some (.string x1) ∧ W.cell? ⟨w.heap.size, 2, none⟩ = some (.slice xa2 xn2 xc2) ∧ W.cell? ⟨w.heap.size, 3, none⟩ = some (.bool x3) ∧ W.cell? ⟨w.heap.size, 4, none⟩ = some (.slice xa4 xn4 xc4) ∧ W.cell? ⟨w.heap.size, 5, none⟩ = some (.slice xa5 xn5 xc5)) := Lib.hid fun W hW => ⟨(Lib.cell_of_heap ((hW.block _ (heap_lt k1)).trans k1) 0).trans rfl, (Lib.cell_of_heap ((hW.block _ (heap_lt k1)).trans k1) 1).trans rfl, (Lib.cell_of_heap ((hW.block _ (heap_lt k1)).trans k1) 2).trans rfl, (Lib.cell_of_heap ((hW.block _ (heap_lt k1)).trans k1) 3).trans rfl, (Lib.cell_of_heap ((hW.block _ (heap_lt k1)).trans k1) 4).trans rfl, (Lib.cell_of_heap ((hW.block _ (heap_lt k1)).trans k1) 5).trans rfl⟩
  obtain ⟨d0, d1, d2, d3, d4, d5⟩ := MK.out w2 (Below.refl _ _)
  have HBV : Hid (Below w2.heap.size w2 w2) := Lib.hid (Below.refl _ _)
  try rw [hw2]
  clear hw2 k1
  cases t0 with
  | false =>
    go_wp2_with fail
    refine (H0.out _ (HB2.out.trans (HBV.out.mono HB2.out.size))).mono ?_; rintro e w5 ⟨rfl, hb⟩
    have HBV2 : Hid (Below w2.heap.size w2 w5) := Lib.hid (HBV.out.trans (hb.mono HBV.out.size))
    obtain ⟨d0, d1, d2, d3, d4, d5⟩ := MK.out w5 HBV2.out
    clear HBV hb
    have HBV := HBV2
    clear HBV2
    go_wp2_with fail
    go_ret
    exact ⟨ret_b rfl, HB2.out.trans (HBV.out.mono HB2.out.size)⟩
  | true =>
    go_wp2_with fail
    refine (H0.out _ (HB2.out.trans (HBV.out.mono HB2.out.size))).mono ?_; rintro e w5 ⟨rfl, hb⟩
    have HBV2 : Hid (Below w2.heap.size w2 w5) := Lib.hid (HBV.out.trans (hb.mono HBV.out.size))
    obtain ⟨d0, d1, d2, d3, d4, d5⟩ := MK.out w5 HBV2.out
    clear HBV hb
    have HBV := HBV2
    clear HBV2
    cases t1 with
    | false =>
      go_wp2_with fail
      refine (H1.out _ (HB2.out.trans (HBV.out.mono HB2.out.size))).mono ?_; rintro e w5 ⟨rfl, hb⟩
      have HBV2 : Hid (Below w2.heap.size w2 w5) := Lib.hid (HBV.out.trans (hb.mono HBV.out.size))
      obtain ⟨d0, d1, d2, d3, d4, d5⟩ := MK.out w5 HBV2.out
      clear HBV hb
      have HBV := HBV2
      clear HBV2
      go_wp2_with fail
      go_ret
      exact ⟨ret_b rfl, HB2.out.trans (HBV.out.mono HB2.out.size)⟩
    | true =>
      go_wp2_with fail
      refine (H1.out _ (HB2.out.trans (HBV.out.mono HB2.out.size))).mono ?_; rintro e w5 ⟨rfl, hb⟩
      have HBV2 : Hid (Below w2.heap.size w2 w5) := Lib.hid (HBV.out.trans (hb.mono HBV.out.size))
      obtain ⟨d0, d1, d2, d3, d4, d5⟩ := MK.out w5 HBV2.out
      clear HBV hb
      have HBV := HBV2
      clear HBV2
      cases x3 with
      | false =>
        cases t4 with
        | false =>
          have hne : ¬ xn4 = 0 := beq_eq_false_iff_ne.1 h4
          have hni : ((xn4 : Int) == 0) = false := beq_eq_false_iff_ne.2 (by omega)
          go_wp2_with fail
          go_ret
          exact ⟨ret_b rfl, HB2.out.trans (HBV.out.mono HB2.out.size)⟩
        | true =>
          have hne : xn4 = 0 := beq_iff_eq.1 h4
          have hni : ((xn4 : Int) == 0) = true := beq_iff_eq.2 (by omega)
          go_wp2_with fail
          go_ret
          exact ⟨ret_b rfl, HB2.out.trans (HBV.out.mono HB2.out.size)⟩
      | true =>
        cases t3 with
        | false =>
          go_wp2_with fail
          refine (H3.out _ (HB2.out.trans (HBV.out.mono HB2.out.size))).mono ?_; rintro e w5 ⟨rfl, hb⟩
          have HBV2 : Hid (Below w2.heap.size w2 w5) := Lib.hid (HBV.out.trans (hb.mono HBV.out.size))
          obtain ⟨d0, d1, d2, d3, d4, d5⟩ := MK.out w5 HBV2.out
          clear HBV hb
          have HBV := HBV2
          clear HBV2
          go_wp2_with fail
          go_ret
          exact ⟨ret_b rfl, HB2.out.trans (HBV.out.mono HB2.out.size)⟩
        | true =>
          go_wp2_with fail
          refine (H3.out _ (HB2.out.trans (HBV.out.mono HB2.out.size))).mono ?_; rintro e w5 ⟨rfl, hb⟩
          have HBV2 : Hid (Below w2.heap.size w2 w5) := Lib.hid (HBV.out.trans (hb.mono HBV.out.size))
          obtain ⟨d0, d1, d2, d3, d4, d5⟩ := MK.out w5 HBV2.out
          clear HBV hb
          have HBV := HBV2
          clear HBV2
          cases t5 with
          | false =>
            go_wp2_with fail
            refine (H5.out _ (HB2.out.trans (HBV.out.mono HB2.out.size))).mono ?_; rintro e w5 ⟨rfl, hb⟩
            have HBV2 : Hid (Below w2.heap.size w2 w5) := Lib.hid (HBV.out.trans (hb.mono HBV.out.size))
            obtain ⟨d0, d1, d2, d3, d4, d5⟩ := MK.out w5 HBV2.out
            clear HBV hb
            have HBV := HBV2
            clear HBV2
            go_wp2_with fail
            go_ret
            exact ⟨ret_b rfl, HB2.out.trans (HBV.out.mono HB2.out.size)⟩
          | true =>
            go_wp2_with fail
            refine (H5.out _ (HB2.out.trans (HBV.out.mono HB2.out.size))).mono ?_; rintro e w5 ⟨rfl, hb⟩
            have HBV2 : Hid (Below w2.heap.size w2 w5) := Lib.hid (HBV.out.trans (hb.mono HBV.out.size))
            obtain ⟨d0, d1, d2, d3, d4, d5⟩ := MK.out w5 HBV2.out
            clear HBV hb
            have HBV := HBV2
            clear HBV2
            go_wp2_with fail
            go_ret
            exact ⟨ret_b rfl, HB2.out.trans (HBV.out.mono HB2.out.size)⟩
def mayI (x : Inp) : Bool := nameB x.name && ttB x.tnm x.wr && cond x.has (litB x.dflt && !x.dflt.any isV) x.dflt.isEmpty
theorem inpB_may (x : Inp) : inpB x = (mayI x && fixD' x.dirs) := by
  unfold inpB mayI
  rw [fixV_lit]
  cases nameB x.name <;> cases ttB x.tnm x.wr <;> cases fixD' x.dirs <;> cases (cond x.has (litB x.dflt && !x.dflt.any isV) x.dflt.isEmpty) <;> rfl
theorem rmi_any (x : Inp) (ev : Value) (w : World) (h : InpV ev x w) (hs : InpSm x) :
    Calls Tryz.prog 80 #[ev] w fun e w' => e = .returned (.bool (mayI x)) ∧ Below w.heap.size w w' := by
  obtain ⟨_, _, _, _, _, _, _, _, _, rfl, h1, h2, h3⟩ := h
  refine rmi_c _ _ _ _ _ _ _ _ _ _ _ _ _ _ _ _ _ w ?_ ?_ ?_ ?_ ?_
  · exact Lib.hid fun W _ => calls_below (rname_big _ (by rw [← bsz]; exact hs.1) W)
  · exact Lib.hid fun W hW => by
      have := rmt_big ⟨x.tnm.toArray⟩ x.wr _ W (h1.below hW) (by rw [← bsz]; exact hs.2.1)
      exact this
  · exact Lib.hid fun W hW => mayval_any _ _ W (h2.below hW) hs.2.2.2.1
  · rw [celsl_len h2]
    cases x.dflt <;> rfl
  · exact Lib.hid fun W hW => rfx_any _ _ W (h2.below hW) hs.2.2.2.1.1
/-- Is there a variable in directives? -/
def argV (a : ArgD) : Bool := a.2.any isV
def dirV (d : DirD) : Bool := d.2.any argV
def hasV (D : List DirD) : Bool := D.any dirV
theorem fixD_dir (D : List DirD) : fixD' D = (!hasV D && D.all dirB) := by
  unfold fixD' hasV
  induction D with
  | nil => rfl
  | cons d r ih =>
    rw [List.all_cons, List.any_cons, List.all_cons, ih]
    have e : fixD1 d = (dirB d && !dirV d) := by
      unfold fixD1 dirB dirV fixA
      rw [Bool.and_assoc]; rfl
    rw [e]
    cases dirB d <;> cases dirV d <;> cases r.any dirV <;> cases r.all dirB <;> rfl
theorem xsl_len {α : Type} {Sl : Value → α → World → Prop} {a : Option Addr} {n c : Nat} {L : List (List UInt8 × α)} {w : World} (h : XSl Sl (.slice a n c) L w) : n = L.length := by
  rcases h with ⟨_, _, e, rfl⟩ | ⟨_, _, _, e, _⟩
  · injection e with _ e2 _
  · injection e with _ e2 _
set_option maxRecDepth 100000 in
set_option maxHeartbeats 8000000 in
theorem rfd_row (D : List DirD) (b off cap : Nat) (dd : Bool) (hl : D.length ≤ 100000) (w : World) (hA : XRow ArgSl b off D w) (hs : ∀ x ∈ D, x.2.length ≤ 100000 ∧ ∀ y ∈ x.2, y.2.length ≤ 100000)
    (HM : Hid (∀ W, Below w.heap.size w W → Calls Tryz.prog 79 #[.slice (some ⟨b, off, none⟩) D.length cap] W fun e w' => e = .returned (.bool dd) ∧ Below W.heap.size W w')) :
    Calls Tryz.prog 71 #[.slice (some ⟨b, off, none⟩) D.length cap] w fun e w' => e = .returned (.bool (!hasV D && dd)) ∧ Below w.heap.size w w' := by
  have HA := Lib.hid hA
  have HS := Lib.hid hs
  obtain ⟨Z, hZ⟩ : ∃ Z, hasV D = Z := ⟨_, rfl⟩
  have HZ0 : Hid ((D.drop 0).any dirV = Z) := Lib.hid hZ
  rw [hZ]
  obtain ⟨n, hn⟩ : ∃ n, D.length = n := ⟨_, rfl⟩
  have HN := Lib.hid hn
  rw [hn] at hl HM ⊢
  clear hA hs hZ hn
  go_enter Tryz.func71, Tryz.ntmps71
  go_wp2_with fail
  go_loopw [3] (fun iv wr => ∃ i : Nat, i ≤ n ∧ iv = .int .i64 (i : Int) ∧ Hid ((D.drop i).any dirV = Z) ∧ w = wr) (fun iv wr => n - (intOf iv).toNat)
  case atStart => exact ⟨0, Nat.zero_le _, rfl, HZ0, rfl⟩
  case round =>
    clear HZ0
    rename World => wr
    obtain ⟨i, hi, rfl, HQ, rfl⟩ := hrel
    by_cases hlt : i < n
    · have hil : i < D.length := by have := HN.out; omega
      obtain ⟨a0, aa, an, ac, a1, hy⟩ := HA.out i hil
      have hal := xsl_len hy
      have HY := Lib.hid hy
      obtain ⟨s1, s2⟩ := HS.out D[i] (List.getElem_mem hil)
      have HS2 := Lib.hid s2
      have hq := HQ.out
      rw [List.drop_eq_getElem_cons hil, List.any_cons] at hq
      have HB0 : Hid (((D[i].2.drop 0).any argV || (D.drop (i + 1)).any dirV) = Z) := Lib.hid hq
      have i1 : (i : Int).toNat = i := by omega
      have i2 : (0 : Int) ≤ (i : Int) := by omega
      have i3 : (i : Int) < (n : Int) := by omega
      have pb := lt_of_cell a1
      clear hq HQ hy s2 a0
      generalize hR1 : (D.drop (i + 1)).any dirV = R1 at *
      have HR1 := Lib.hid hR1
      clear hR1
      generalize hAe : D[i].2 = A at *
      clear hil hAe
      have HAL := Lib.hid hal
      rw [← hal] at s1
      clear hal
      go_wp2_with fail
      go_loopw [4] (fun kv wr => ∃ k : Nat, k ≤ an ∧ kv = .int .i64 (k : Int) ∧ Hid (((A.drop k).any argV || R1) = Z) ∧ w = wr) (fun kv wr => an - (intOf kv).toNat)
      case atStart => exact ⟨0, Nat.zero_le _, rfl, HB0, rfl⟩
      case round =>
        clear HB0
        rename World => wr
        obtain ⟨k, hk, rfl, HQ, rfl⟩ := hrel
        by_cases hkl : k < an
        · have hkA : k < A.length := by have := HAL.out; omega
          obtain ⟨b2, o2, rfl, hrow2⟩ : ∃ b2 o2, aa = some ⟨b2, o2, none⟩ ∧ XRow CelSl b2 o2 A w := by
            rcases HY.out with ⟨_, _, e, rfl⟩ | ⟨b2, o2, _, e, h2, _⟩
            · simp at hkA
            · injection e with e1 _ _
              exact ⟨b2, o2, e1, h2⟩
          obtain ⟨c0, va, vn, vc, c1, hv⟩ := hrow2 k hkA
          have hvl := celsl_len hv
          have HV := Lib.hid hv
          have s3 := HS2.out A[k] (List.getElem_mem hkA)
          have hq := HQ.out
          rw [List.drop_eq_getElem_cons hkA, List.any_cons] at hq
          have HC0 : Hid (((A[k].2.drop 0).any isV || (A.drop (k + 1)).any argV || R1) = Z) := Lib.hid hq
          have j1 : (k : Int).toNat = k := by omega
          have j2 : (0 : Int) ≤ (k : Int) := by omega
          have j3 : (k : Int) < (an : Int) := by omega
          have pc := lt_of_cell c1
          clear hq HQ hv hrow2 c0
          generalize hR2 : (A.drop (k + 1)).any argV = R2 at *
          have HR2 := Lib.hid hR2
          clear hR2
          generalize hVe : A[k].2 = V at *
          clear hkA hVe
          have HVL := Lib.hid hvl
          rw [← hvl] at s3
          clear hvl
          go_wp2_with fail
          go_loopw [6] (fun jv wr => ∃ j : Nat, j ≤ vn ∧ jv = .int .i64 (j : Int) ∧ Hid (((V.drop j).any isV || R2 || R1) = Z) ∧ w = wr) (fun jv wr => vn - (intOf jv).toNat)
          case atStart => exact ⟨0, Nat.zero_le _, rfl, HC0, rfl⟩
          case round =>
            clear HC0
            rename World => wr
            obtain ⟨j, hj, rfl, HQ, rfl⟩ := hrel
            by_cases hjl : j < vn
            · have hjV : j < V.length := by have := HVL.out; omega
              obtain ⟨b3, o3, rfl, hrow3⟩ : ∃ b3 o3, va = some ⟨b3, o3, none⟩ ∧ CelRow b3 o3 V w := by
                rcases HV.out with ⟨_, _, e, rfl, _⟩ | ⟨b3, o3, _, e, h2, _⟩
                · simp at hjV
                · injection e with e1 _ _
                  exact ⟨b3, o3, e1, h2⟩
              have e0 := (hrow3 j hjV).1
              have hq := HQ.out
              rw [List.drop_eq_getElem_cons hjV, List.any_cons] at hq
              have hkd : isV V[j] = ((V[j].kind.toNat : Int) == 5) := by unfold isV; rw [kind_eq]; rfl
              rw [hkd] at hq
              have l1 : (j : Int).toNat = j := by omega
              have l2 : (0 : Int) ≤ (j : Int) := by omega
              have l3 : (j : Int) < (vn : Int) := by omega
              have pd := lt_of_cell e0
              generalize (V[j].kind.toNat : Int) = ki at *
              clear hkd HQ hrow3 hjV
              by_cases h5 : ki = 5
              · have HF : Hid (Z = true) := Lib.hid (by rw [← hq, h5]; rfl)
                subst h5
                clear hq
                go_wp2_with fail
                go_ret
                exact ⟨ret_b (by rw [HF.out]; rfl), Below.refl _ _⟩
              · have h5b : (ki == 5) = false := beq_eq_false_iff_ne.2 h5
                have HF : Hid (((V.drop (j + 1)).any isV || R2 || R1) = Z) := Lib.hid (by rw [← hq, h5b]; rfl)
                clear hq
                go_wp2_with fail
                go_roundw
                case rel => exact ⟨j + 1, by omega, by go_num, HF, by first | rfl | trivial⟩
                case measure => simp [intOf]; omega
            · have HF : Hid (((A.drop (k + 1)).any argV || R1) = Z) := Lib.hid (by rw [HR2.out, ← HQ.out, List.drop_of_length_le (by have := HVL.out; omega)]; rfl)
              clear HQ
              go_wp2_with fail
              go_roundw
              case rel => exact ⟨k + 1, by omega, by go_num, HF, by first | rfl | trivial⟩
              case measure => simp [intOf]; omega
        · have HF : Hid ((D.drop (i + 1)).any dirV = Z) := Lib.hid (by rw [HR1.out, ← HQ.out, List.drop_of_length_le (by have := HAL.out; omega)]; rfl)
          clear HQ
          go_wp2_with fail
          go_roundw
          case rel => exact ⟨i + 1, by omega, by go_num, HF, by first | rfl | trivial⟩
          case measure => simp [intOf]; omega
    · have HF : Hid (Z = false) := Lib.hid (by rw [← HQ.out, List.drop_of_length_le (by have := HN.out; omega)]; rfl)
      clear HQ
      go_wp2_with fail
      refine (HM.out _ (Below.refl _ _)).mono ?_; rintro e w2 ⟨rfl, hb⟩
      have HB2 := Lib.hid hb
      clear hb
      go_wp2_with fail
      go_ret
      exact ⟨ret_b (by rw [HF.out]; rfl), HB2.out⟩
set_option maxRecDepth 100000 in
theorem rfd_none (a : Option Addr) (c : Nat) (dd : Bool) (w : World) (HM : Hid (∀ W, Below w.heap.size w W → Calls Tryz.prog 79 #[.slice a 0 c] W fun e w' => e = .returned (.bool dd) ∧ Below W.heap.size W w')) :
    Calls Tryz.prog 71 #[.slice a 0 c] w fun e w' => e = .returned (.bool dd) ∧ Below w.heap.size w w' := by
  go_enter Tryz.func71, Tryz.ntmps71
  go_wp2_with fail
  refine wp_loop_rounds 1 ?_; rw [rounds_succ]
  go_wp2_with fail
  refine (HM.out _ (Below.refl _ _)).mono ?_; rintro e w2 ⟨rfl, hb⟩
  have HB2 := Lib.hid hb
  clear hb
  go_wp2_with fail
  go_ret
  exact ⟨rfl, HB2.out⟩
theorem rfd_any (D : List DirD) (v : Value) (w : World) (hv : DirSlc v D w) (hs : DirsSm D) :
    Calls Tryz.prog 71 #[v] w fun e w' => e = .returned (.bool (fixD' D)) ∧ Below w.heap.size w w' := by
  have HM : Hid (∀ W, Below w.heap.size w W → Calls Tryz.prog 79 #[v] W fun e w' => e = .returned (.bool (D.all dirB)) ∧ Below W.heap.size W w') := Lib.hid fun W hW => rmd_any D v W (DirSl.below hv.dir hW) hs
  rw [fixD_dir]
  rcases hv.dir with ⟨a, c, rfl, rfl⟩ | ⟨b, off, cap, rfl, hrow, _⟩
  · exact rfd_none a c _ w HM
  · exact rfd_row D b off cap _ hs.1 w hrow (fun x hx => ⟨(hs.2 x hx).2.1, fun y hy => ((hs.2 x hx).2.2 y hy).2.1⟩) HM
set_option maxRecDepth 100000 in
set_option maxHeartbeats 4000000 in
theorem rins_row (L : List Inp) (b off cap : Nat) (hl : L.length ≤ 100000) (w : World) (hrow : RowG 6 InpE ⟨b, off, none⟩ L w) (hs : ∀ x ∈ L, InpSm x) :
    Calls Tryz.prog 72 #[.slice (some ⟨b, off, none⟩) L.length cap] w fun e w' => e = .returned (.bool (L.all inpB)) ∧ Below w.heap.size w w' := by
  have HROW := Lib.hid hrow
  have HS := Lib.hid hs
  obtain ⟨Z, hZ⟩ : ∃ Z, L.all inpB = Z := ⟨_, rfl⟩
  have HZ0 : Hid ((L.drop 0).all inpB = Z) := Lib.hid hZ
  rw [hZ]
  obtain ⟨n, hn⟩ : ∃ n, L.length = n := ⟨_, rfl⟩
  have HN := Lib.hid hn
  rw [hn] at hl ⊢
  clear hrow hs hZ hn
  go_enter Tryz.func72, Tryz.ntmps72
  go_wp2_with fail
  go_loopw [3] (fun iv wr => ∃ k : Nat, k ≤ n ∧ iv = .int .i64 (k : Int) ∧ Hid ((L.drop k).all inpB = Z) ∧ Hid (Below w.heap.size w wr)) (fun iv wr => n - (intOf iv).toNat)
  case atStart => exact ⟨0, Nat.zero_le _, rfl, HZ0, Lib.hid (Below.refl _ _)⟩
  case round =>
    clear HZ0
    rename World => wr
    obtain ⟨k, hk, rfl, HQ, HB⟩ := hrel
    by_cases hlt : k < n
    · have hil : k < L.length := by have := HN.out; omega
      obtain ⟨y0, y1, y2, y3, y4, y5, y6, y7, y8, q0, q1, q2, q3, q4, q5, yy, yz, yu⟩ := inp_at (RowG.below HROW.out fun _ _ h => InpE.below h HB.out) k hil
      have sm := HS.out L[k] (List.getElem_mem hil)
      have hq := HQ.out
      rw [List.drop_eq_getElem_cons hil, List.all_cons, inpB_may] at hq
      have hz := HB.out.size
      obtain ⟨t0, ht0⟩ : ∃ t, mayI L[k] = t := ⟨_, rfl⟩
      obtain ⟨t1, ht1⟩ : ∃ t, fixD' L[k].dirs = t := ⟨_, rfl⟩
      rw [ht0, ht1] at hq
      have HC0 := Lib.hid (rmi_any L[k] _ wr ⟨_, _, _, _, _, _, _, _, _, rfl, yy, yz, yu⟩ sm)
      have HC1 := Lib.hid fun W (hW : Below wr.heap.size wr W) => rfd_any L[k].dirs _ W (DirSlc.below yu hW) sm.2.2.2.2
      rw [ht0] at HC0
      rw [ht1] at HC1
      have HQ2 := Lib.hid hq
      clear hq HQ sm yy yz yu ht0 ht1
      generalize L[k].has = hs at *
      generalize (⟨L[k].name.toArray⟩ : ByteArray) = x0 at *
      generalize (⟨L[k].tnm.toArray⟩ : ByteArray) = x1 at *
      have i1 : (k : Int).toNat = k := by omega
      have i2 : (0 : Int) ≤ (k : Int) := by omega
      have i3 : (k : Int) < (n : Int) := by omega
      have q5b := lt_of_cell q5
      cases t0 with
      | false =>
        have HF : Hid (false = Z) := Lib.hid (by rw [← HQ2.out]; rfl)
        go_wp2_with fail
        refine HC0.out.mono ?_; rintro e w1 ⟨rfl, hb⟩
        have HB1 := Lib.hid (HB.out.trans (hb.mono hz))
        clear hb
        go_wp2_with fail
        go_ret
        exact ⟨ret_b HF.out, HB1.out⟩
      | true =>
        go_wp2_with fail
        refine HC0.out.mono ?_; rintro e w1 ⟨rfl, hb⟩
        have HBW := Lib.hid hb
        have r5 := (hb.cell (p := ⟨_, _, none⟩) q5b).trans q5
        clear hb q0 q1 q2 q3 q4 q5
        cases t1 with
        | false =>
          have HF : Hid (false = Z) := Lib.hid (by rw [← HQ2.out]; rfl)
          go_wp2_with fail
          refine (HC1.out _ HBW.out).mono ?_; rintro e w2 ⟨rfl, hb⟩
          have HB2 := Lib.hid (HB.out.trans ((HBW.out.trans (hb.mono HBW.out.size)).mono hz))
          clear hb
          go_wp2_with fail
          go_ret
          exact ⟨ret_b HF.out, HB2.out⟩
        | true =>
          have HF : Hid ((L.drop (k + 1)).all inpB = Z) := Lib.hid (by rw [← HQ2.out]; rfl)
          go_wp2_with fail
          refine (HC1.out _ HBW.out).mono ?_; rintro e w2 ⟨rfl, hb⟩
          have HB2 := Lib.hid (HB.out.trans ((HBW.out.trans (hb.mono HBW.out.size)).mono hz))
          clear hb
          go_wp2_with fail
          go_roundw
          case rel => exact ⟨k + 1, by omega, by go_num, HF, HB2⟩
          case measure => simp [intOf]; omega
    · have HF : Hid (true = Z) := Lib.hid (by rw [← HQ.out, List.drop_of_length_le (by have := HN.out; omega)]; rfl)
      clear HQ
      go_wp2_with fail
      go_ret
      exact ⟨ret_b HF.out, HB.out⟩
set_option maxRecDepth 100000 in
theorem rins_none (a : Option Addr) (c : Nat) (w : World) :
    Calls Tryz.prog 72 #[.slice a 0 c] w fun e w' => e = .returned (.bool true) ∧ Below w.heap.size w w' := by
  go_enter Tryz.func72, Tryz.ntmps72
  go_wp2_with fail
  refine wp_loop_rounds 1 ?_; rw [rounds_succ]
  go_wp2_with fail
  go_ret
  exact ⟨rfl, Below.refl _ _⟩
theorem rins_any (L : List Inp) (v : Value) (w : World) (hv : InpSl v L w) (hs : InpsSm L) :
    Calls Tryz.prog 72 #[v] w fun e w' => e = .returned (.bool (L.all inpB)) ∧ Below w.heap.size w w' := by
  rcases hv with ⟨a, c, rfl, rfl⟩ | ⟨b, off, cap, rfl, hrow, _⟩
  · exact rins_none a c w
  · exact rins_row L b off cap hs.1 w hrow hs.2
end Go.Proofs.YtgacpmdebjndkaaGreatDoor
