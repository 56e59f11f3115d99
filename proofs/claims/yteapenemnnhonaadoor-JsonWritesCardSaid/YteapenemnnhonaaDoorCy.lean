/- The walk through the program's behind (cell): what stands in a list, an object. -/
import Derived.Test.YteapenemnnhonaaDoorCx
import Derived.Test.YteapenemnnhonaaDoorKs
import Derived.Deep.LoopGhost
set_option linter.unusedSimpArgs false
set_option linter.unusedVariables false
namespace Go.Proofs.YteapenemnnhonaaDoor
open Go.RowKit
theorem bend_none {w0 : World} {V : List Cel} {b off cap bv ba bw be g k d : Nat} {es ez : Array Value} {W wz : World} (hn : valN d (V.drop k) = none) (hB : BH w0 V b off cap bv ba bw be g ez wz) (hs : es.size = V.length) (hw : W.grownBy wz (some g)) :
    BEnd V k d g es (endI V k d) (.returned (.int .i64 (-1))) W wz := by
  have he : endI V k d = -1 := by unfold endI; rw [hn]
  rw [he]
  refine ⟨rfl, hw, ez, hB.hg, by rw [hB.size, hs], ?_⟩
  intro n h
  rw [hn] at h; cases h
theorem BH.other {w0 : World} {V : List Cel} {b off cap bv ba bw be g r : Nat} {es : Array Value} {W W' : World} (h : BH w0 V b off cap bv ba bw be g es W) (hb : W.grownBy W' (some r)) (hr : w0.heap.size ≤ r) (hM : bv < r ∧ ba < r ∧ bw < r ∧ be < r ∧ g < r) : BH w0 V b off cap bv ba bw be g es W' :=
  { h with
    hv := (hb.block _ (heap_lt h.hv) (fun e => by have := Option.some.inj e; omega)).trans h.hv
    ha := (hb.block _ (heap_lt h.ha) (fun e => by have := Option.some.inj e; omega)).trans h.ha
    hw := (hb.block _ (heap_lt h.hw) (fun e => by have := Option.some.inj e; omega)).trans h.hw
    he := (hb.block _ (heap_lt h.he) (fun e => by have := Option.some.inj e; omega)).trans h.he
    hg := (hb.block _ (heap_lt h.hg) (fun e => by have := Option.some.inj e; omega)).trans h.hg
    bel := h.bel.grown hb h.bel.size (fun k hk => by have := Option.some.inj hk; omega) }
theorem grown_new {W w w' : World} {g r : Nat} (h : W.grownBy w (some g)) (hb : w.grownBy w' (some r)) (hr : W.heap.size ≤ r) : W.grownBy w' (some g) :=
  ⟨hb.os.trans h.os, hb.tape.trans h.tape, hb.output.trans h.output, Nat.le_trans h.size hb.size, fun i hi hne => (hb.block i (Nat.lt_of_lt_of_le hi h.size) (fun e => by have := Option.some.inj e; omega)).trans (h.block i hi hne)⟩
theorem fill_next {V : List Cel} {k u p n : Nat} {es esr es5 : Array Value} (hp : p = k + 1 + u) (h : (∀ i, i < k + 1 ∨ k + 1 + u ≤ i → esr[i]? = es[i]?) ∧ ∀ i, k + 1 ≤ i → i < k + 1 + u → esr[i]? = some (.int .i64 (endI V i 16)))
    (h5 : (∀ i, i < p ∨ p + n ≤ i → es5[i]? = esr[i]?) ∧ ∀ i, p ≤ i → i < p + n → es5[i]? = some (.int .i64 (endI V i 16))) :
    (∀ i, i < k + 1 ∨ k + 1 + (u + n) ≤ i → es5[i]? = es[i]?) ∧ ∀ i, k + 1 ≤ i → i < k + 1 + (u + n) → es5[i]? = some (.int .i64 (endI V i 16)) := by
  subst hp
  refine ⟨fun i hi => ?_, fun i h1 h2 => ?_⟩
  · rw [h5.1 i (by omega)]
    exact h.1 i (by omega)
  · by_cases hi : i < k + 1 + u
    · rw [h5.1 i (by omega)]; exact h.2 i h1 hi
    · exact h5.2 i (by omega) (by omega)
theorem amongB_app (nm : List (List UInt8)) (x : List UInt8) : amongB (nm ++ [[]]) x = (amongB nm x || x.isEmpty) := by
  unfold amongB
  rw [List.any_append]
  cases x <;> simp
set_option maxRecDepth 100000 in
set_option maxHeartbeats 1000000 in
theorem bw_list (w0 : World) (V : List Cel) (b off cap bv ba bw be g : Nat) (es : Array Value) (W : World) (k d : Nat) (hB : BH w0 V b off cap bv ba bw be g es W) (kk : Nat) (nx tx : ByteArray) (nu : Int) (m : Nat)
    (hk : k < V.length) (hl : V.length ≤ 100000) (hd : d ≤ 16)
    (c0 : W.cell? ⟨b, off + k * 5, none⟩ = some (.int .u8 (kk : Int))) (c1 : W.cell? ⟨b, off + k * 5 + 1, none⟩ = some (.string nx)) (c2 : W.cell? ⟨b, off + k * 5 + 2, none⟩ = some (.string tx)) (c3 : W.cell? ⟨b, off + k * 5 + 3, none⟩ = some (.int .i64 nu)) (c4 : W.cell? ⟨b, off + k * 5 + 4, none⟩ = some (.int .i64 (m : Int)))
    (hk7 : kk ≤ 7) (HT : Hid (∀ w : World, Below W.heap.size W w → Calls Tryd.prog (tfun kk) #[.string tx] w fun e w' => e = .returned (.bool true) ∧ Below w.heap.size w w'))
    (HN : Hid (∀ w : World, Calls Tryd.prog (nfun kk) #[.int .i64 nu] w fun e w' => e = .returned (.bool true) ∧ Below w.heap.size w w'))
    (hkk : kk = 6) (hcn : cnest kk = true) (hd1 : 0 < d) (hm0 : 0 < m) (hmx : (m : Int) ≤ 9223372036854775807)
    (HROW : Hid (CelRow b off V w0)) (hbl : b < w0.heap.size) (HSM : Hid (∀ c ∈ V, c.name.length ≤ 100000)) (o : Option Nat) (hkids : kidsN (valN (d - 1)) true m [] (V.drop (k + 1)) = o) (hval : valN d (V.drop k) = o.map (1 + ·))
    (HTX : Hid (∀ (W' : World) (x : ByteArray), x.size ≤ 100000 → Below w0.heap.size w0 W' → Calls Tryd.prog 36 #[.string x] W' fun e w' => e = .returned (.int .i64 (chkE x.data.toList)) ∧ Below W'.heap.size W' w'))
    (HIH : Hid (∀ (W' : World) (es' : Array Value) (p : Nat), p < V.length → BH w0 V b off cap bv ba bw be g es' W' → Calls Tryd.prog 35 #[.int .i64 (p : Int), .int .i64 ((d : Int) - 1), .pointer (some ⟨bv, 0, none⟩), .pointer (some ⟨ba, 0, none⟩), .pointer (some ⟨bw, 0, none⟩), .pointer (some ⟨be, 0, none⟩)] W' fun e w' => BEnd V p (d - 1) g es' (endI V p (d - 1)) e W' w')) :
    Calls Tryd.prog 35 #[.int .i64 (k : Int), .int .i64 (d : Int), .pointer (some ⟨bv, 0, none⟩), .pointer (some ⟨ba, 0, none⟩), .pointer (some ⟨bw, 0, none⟩), .pointer (some ⟨be, 0, none⟩)] W fun e w' => BEnd V k d g es (endI V k d) e W w' := by
  have v0 : W.cell? ⟨bv, 0, none⟩ = some (.slice (some ⟨b, off, none⟩) V.length cap) := by rw [Lib.cell_of_heap hB.hv]; rfl
  have HV := Lib.hid hval
  have HK0 := Lib.hid (KS.start hkids)
  have HKK := Lib.hid hkk
  have hd2 : ((d : Int) == 0) = false := by rw [beq_eq_false_iff_ne]; omega
  have t6 : ((kk : Int) == 6) = true := by rw [HKK.out]; rfl
  have t7 : ((kk : Int) == 7) = false := by rw [HKK.out]; rfl
  clear hval hkids hkk
  have lba := heap_lt hB.ha
  have lbv := heap_lt hB.hv
  obtain ⟨a0, a1, a2⟩ := kindsA_get kk hk7
  have k0 : W.cell? ⟨ba, kk * 3, none⟩ = some (.func (.func (tfun kk)) #[] #[]) := by rw [Lib.cell_of_heap hB.ha]; exact a0
  have k1 : W.cell? ⟨ba, kk * 3 + 1, none⟩ = some (.func (.func (nfun kk)) #[] #[]) := by rw [Lib.cell_of_heap hB.ha]; exact a1
  have k2 : W.cell? ⟨ba, kk * 3 + 2, none⟩ = some (.bool (cnest kk)) := by rw [Lib.cell_of_heap hB.ha]; exact a2
  have ht := tfun_ent kk
  have hn := nfun_ent kk
  clear a0 a1 a2
  generalize tfun kk = ft at *
  generalize nfun kk = fn at *
  rw [hcn] at k2
  clear hcn
  have HB := Lib.hid hB
  clear hB
  have HES : Hid (es.size = V.length) := Lib.hid HB.out.size
  have hmm := @run_makeMap Tryd.prog
  go_enter Tryd.func35, Tryd.ntmps35
  go_wp2_with fail
  refine (HT.out _ (((Below.refl _ _).alloc (Nat.le_refl _) _).alloc (by simp) _)).mono ?_; rintro e w1 ⟨rfl, hb⟩
  have hb1 : Below W.heap.size W w1 := (((Below.refl _ _).alloc (Nat.le_refl _) _).alloc (by simp) _).trans (hb.mono (by simp; omega))
  have hc : w1.heap[W.heap.size]? = some (.cells #[.int .u8 (kk : Int), .string nx, .string tx, .int .i64 nu, .int .i64 (m : Int)] 33 (0, 0)) := (hb.block _ (by simp; omega)).trans (heap_old (heap_new _ _ _ rfl))
  have hq : w1.heap[W.heap.size + 1]? = some (.cells #[.func (.func ft) #[] #[], .func (.func fn) #[] #[], .bool true] 66 (0, 0)) := (hb.block _ (by simp)).trans (heap_new _ _ _ (by simp))
  clear hb
  have w1c0 : w1.cell? ⟨W.heap.size, 0, none⟩ = some (.int .u8 (kk : Int)) := by rw [Lib.cell_of_heap hc]; rfl
  have w1c1 : w1.cell? ⟨W.heap.size, 1, none⟩ = some (.string nx) := by rw [Lib.cell_of_heap hc]; rfl
  have w1c2 : w1.cell? ⟨W.heap.size, 2, none⟩ = some (.string tx) := by rw [Lib.cell_of_heap hc]; rfl
  have w1c3 : w1.cell? ⟨W.heap.size, 3, none⟩ = some (.int .i64 nu) := by rw [Lib.cell_of_heap hc]; rfl
  have w1c4 : w1.cell? ⟨W.heap.size, 4, none⟩ = some (.int .i64 (m : Int)) := by rw [Lib.cell_of_heap hc]; rfl
  have w1q0 : w1.cell? ⟨W.heap.size + 1, 0, none⟩ = some (.func (.func ft) #[] #[]) := by rw [Lib.cell_of_heap hq]; rfl
  have w1q1 : w1.cell? ⟨W.heap.size + 1, 1, none⟩ = some (.func (.func fn) #[] #[]) := by rw [Lib.cell_of_heap hq]; rfl
  have w1q2 : w1.cell? ⟨W.heap.size + 1, 2, none⟩ = some (.bool true) := by rw [Lib.cell_of_heap hq]; rfl
  have HC := Lib.hid hc
  have HQ := Lib.hid hq
  have HB1 := Lib.hid hb1
  clear hc hq hb1
  go_wp2_with fail
  refine (HN.out _).mono ?_; rintro e w2 ⟨rfl, hb⟩
  clear w1c0 w1c1 w1c2 w1c3 w1c4 w1q0 w1q1 w1q2
  have hb2 : Below W.heap.size W w2 := HB1.out.trans (hb.mono HB1.out.size)
  have hc : w2.heap[W.heap.size]? = some (.cells #[.int .u8 (kk : Int), .string nx, .string tx, .int .i64 nu, .int .i64 (m : Int)] 33 (0, 0)) := (hb.block _ (heap_lt HC.out)).trans HC.out
  have hq : w2.heap[W.heap.size + 1]? = some (.cells #[.func (.func ft) #[] #[], .func (.func fn) #[] #[], .bool true] 66 (0, 0)) := (hb.block _ (heap_lt HQ.out)).trans HQ.out
  clear hb
  have w2c0 : w2.cell? ⟨W.heap.size, 0, none⟩ = some (.int .u8 (kk : Int)) := by rw [Lib.cell_of_heap hc]; rfl
  have w2c1 : w2.cell? ⟨W.heap.size, 1, none⟩ = some (.string nx) := by rw [Lib.cell_of_heap hc]; rfl
  have w2c2 : w2.cell? ⟨W.heap.size, 2, none⟩ = some (.string tx) := by rw [Lib.cell_of_heap hc]; rfl
  have w2c3 : w2.cell? ⟨W.heap.size, 3, none⟩ = some (.int .i64 nu) := by rw [Lib.cell_of_heap hc]; rfl
  have w2c4 : w2.cell? ⟨W.heap.size, 4, none⟩ = some (.int .i64 (m : Int)) := by rw [Lib.cell_of_heap hc]; rfl
  have w2q0 : w2.cell? ⟨W.heap.size + 1, 0, none⟩ = some (.func (.func ft) #[] #[]) := by rw [Lib.cell_of_heap hq]; rfl
  have w2q1 : w2.cell? ⟨W.heap.size + 1, 1, none⟩ = some (.func (.func fn) #[] #[]) := by rw [Lib.cell_of_heap hq]; rfl
  have w2q2 : w2.cell? ⟨W.heap.size + 1, 2, none⟩ = some (.bool true) := by rw [Lib.cell_of_heap hq]; rfl
  have HC2 := Lib.hid hc
  have HQ2 := Lib.hid hq
  have HB2 := Lib.hid hb2
  clear hc hq hb2 HC HQ HB1
  obtain ⟨wm, hrun, hN, hgr⟩ := (NamesM.made w2).update ⟨#[]⟩ (by decide) (by decide)
  have HNM : Hid (NamesM w2.heap.size ([] ++ [[]]) wm) := Lib.hid hN
  have hz2 := HB2.out.size
  have hgw : W.grownBy wm (some g) := ⟨hgr.os.trans HB2.out.os, hgr.tape.trans HB2.out.tape, hgr.output.trans HB2.out.output, Nat.le_trans hz2 (Nat.le_trans (by simp) hgr.size), fun i hi _ => ((hgr.block i (by simp; omega) (fun e => by have := Option.some.inj e; omega)).trans (Below.heap_alloc _ _ _ (by omega))).trans (HB2.out.block i hi)⟩
  have hbm : BH w0 V b off cap bv ba bw be g es wm := HB.out.below ⟨hgw.os, hgw.tape, hgw.output, hgw.size, fun i hi => ((hgr.block i (by simp; omega) (fun e => by have := Option.some.inj e; omega)).trans (Below.heap_alloc _ _ _ (by omega))).trans (HB2.out.block i hi)⟩
  have hcm : wm.heap[W.heap.size]? = some (.cells #[.int .u8 (kk : Int), .string nx, .string tx, .int .i64 nu, .int .i64 (m : Int)] 33 (0, 0)) := ((hgr.block _ (by have := heap_lt HC2.out; simp; omega) (fun e => by have h1 := Option.some.inj e; have h2 := heap_lt HC2.out; omega)).trans (Below.heap_alloc _ _ _ (heap_lt HC2.out))).trans HC2.out
  have HGW := Lib.hid hgw
  have HBM := Lib.hid hbm
  have HCM := Lib.hid hcm
  have m4 : wm.cell? ⟨W.heap.size, 4, none⟩ = some (.int .i64 (m : Int)) := by rw [Lib.cell_of_heap hcm]; rfl
  clear hgw hbm hcm
  go_wp2_with fail
  clear hrun hmm ht hn m4
  have LM : Hid (bv < w2.heap.size ∧ ba < w2.heap.size ∧ bw < w2.heap.size ∧ be < w2.heap.size ∧ g < w2.heap.size) := Lib.hid ⟨Nat.lt_of_lt_of_le (heap_lt HB.out.hv) hz2, Nat.lt_of_lt_of_le (heap_lt HB.out.ha) hz2, Nat.lt_of_lt_of_le (heap_lt HB.out.hw) hz2, Nat.lt_of_lt_of_le (heap_lt HB.out.he) hz2, Nat.lt_of_lt_of_le (heap_lt HB.out.hg) hz2⟩
  have L0 : w0.heap.size ≤ w2.heap.size := Nat.le_trans HB.out.bel.size hz2
  have lW : W.heap.size < w2.heap.size := heap_lt HC2.out
  have lgW : g < W.heap.size := heap_lt HB.out.hg
  clear hN hgr w2c0 w2c1 w2c2 w2c3 w2c4 w2q0 w2q1 w2q2 HQ2 HC2 HB2 HB hz2
  generalize w2.heap.size = bm at *
  go_loopg [12, 79] m (fun gk nv ct wr => ∃ (j : Nat) (esr : Array Value), ct = .int .i64 j ∧ gk + j = m ∧ Hid (BH w0 V b off cap bv ba bw be g esr wr) ∧ Hid (W.grownBy wr (some g)) ∧
    ((∃ (p u : Nat) (nm : List (List UInt8)), nv = .int .i64 (p : Int) ∧ p ≤ V.length ∧ Hid (p = k + 1 + u) ∧ nm.length ≤ j ∧ j ≤ u ∧ Hid (KS V (d - 1) k true o gk nm u) ∧ Hid (NamesM bm (nm ++ [[]]) wr) ∧ Hid (wr.heap[W.heap.size]? = some (.cells #[.int .u8 (kk : Int), .string nx, .string tx, .int .i64 nu, .int .i64 (m : Int)] 33 (0, 0))) ∧
      Hid ((∀ i, i < k + 1 ∨ k + 1 + u ≤ i → esr[i]? = es[i]?) ∧ ∀ i, k + 1 ≤ i → i < k + 1 + u → esr[i]? = some (.int .i64 (endI V i 16)))) ∨ (nv = .int .i64 (-1) ∧ Hid (o = none))))
  case atStart => exact ⟨0, es, rfl, by omega, HBM, HGW, Or.inl ⟨k + 1, 0, [], by go_num, by omega, Lib.hid rfl, Nat.le_refl _, Nat.le_refl _, HK0, HNM, HCM, Lib.hid ⟨fun i _ => rfl, fun i h1 h2 => by omega⟩⟩⟩
  case round =>
    rename World => wr
    obtain ⟨j, esr, rfl, hj, HBr, HGr, hrel2⟩ := hrel
    rcases hrel2 with ⟨p, u, nm, rfl, hp, HPU, hnm, hju, HK, HN, HC, HF⟩ | ⟨rfl, HO⟩
    · by_cases hg0 : gk = 0
      · subst hg0
        have HO := Lib.hid HK.out.done
        have e0 : wr.cell? ⟨be, 0, none⟩ = some (.slice (some ⟨g, 0, none⟩) V.length V.length) := by rw [Lib.cell_of_heap HBr.out.he]; rfl
        have hks : k < esr.size := by rw [HBr.out.size]; exact hk
        have e1 : wr.cell? ⟨g, k, none⟩ = some (esr[k]) := by rw [Lib.cell_of_heap HBr.out.hg]; exact Array.getElem?_eq_getElem hks
        have e2 : wr.frozen? ⟨g, k, none⟩ = false := Lib.frozen_of_heap HBr.out.hg k
        generalize esr[k] = ek at *
        have hval2 : valN d (V.drop k) = some (1 + u) := by rw [HV.out, HO.out]; rfl
        have HPK : Hid (p = k + (1 + u)) := Lib.hid (by rw [HPU.out]; omega)
        have HFIN : Hid (BEnd V k d g es (endI V k d) (.returned (.int .i64 (p : Int))) W (wr.setCell ⟨g, k, none⟩ (.int .i64 (p : Int)))) := Lib.hid (by
          rw [HPK.out]
          exact bend_yes hval2 hd hk HES.out HBr.out.hg (by rw [HBr.out.size, HES.out]) HGr.out (fun i h => HF.out.1 i (by omega)) (fun i h1 h2 => HF.out.2 i h1 (by omega)))
        clear hval2
        go_wp2_with fail
        go_ret
        exact HFIN.out
      · obtain ⟨g1, rfl⟩ : ∃ g1, gk = g1 + 1 := ⟨gk - 1, by omega⟩
        clear hg0
        have r0 : wr.cell? ⟨bv, 0, none⟩ = some (.slice (some ⟨b, off, none⟩) V.length cap) := by rw [Lib.cell_of_heap HBr.out.hv]; rfl
        by_cases hpl : p < V.length
        · obtain ⟨_, r1, _⟩ := (HROW.out.below HBr.out.bel hbl) p hpl
          have r2 : wr.cell? ⟨W.heap.size, 0, none⟩ = some (.int .u8 (kk : Int)) := by rw [Lib.cell_of_heap HC.out]; rfl
          have hxz : (⟨V[p].name.toArray⟩ : ByteArray).size = V[p].name.length := by show V[p].name.toArray.size = _; simp
          have hxl : (⟨V[p].name.toArray⟩ : ByteArray).data.toList = V[p].name := by simp
          have hxs : (⟨V[p].name.toArray⟩ : ByteArray).size ≤ 100000 := by rw [hxz]; exact HSM.out _ (List.getElem_mem _)
          have HBAD := Lib.hid (fun h => HK.out.bad HPU.out hpl h)
          have HFAIL := Lib.hid (fun h h' => HK.out.fail HPU.out hpl h h')
          have HNEXT := Lib.hid (fun n h h' => HK.out.next (n := n) HPU.out hpl h h')
          rw [← hxl] at HBAD HFAIL HNEXT
          clear hxz hxl
          generalize (⟨V[p].name.toArray⟩ : ByteArray) = x at *
          have hu : u ≤ 100000 := by have := HPU.out; omega
          have hlook := HN.out.lookup x (by unfold maxLen; omega)
          rw [amongB_app] at hlook
          obtain ⟨wn, hrun, hN2, hgr⟩ := HN.out.update x (by unfold maxLen; omega) (by simp; omega)
          rcases empty_z x with ⟨z0, z1, z2, z3⟩ | ⟨z0, z1, z2, z3⟩
          · have hne : x.data.toList.isEmpty = false := by rw [← ByteArray.toList_eq]; exact z2
            have HO := Lib.hid (HBAD.out (by unfold okN; rw [if_pos rfl]; exact hne))
            clear hne hlook hrun hgr hN2
            have HFIN : Hid (BEnd V k d g es (endI V k d) (.returned (.int .i64 (-1))) W wr) := Lib.hid (bend_none (by rw [HV.out, HO.out]; rfl) HBr.out HES.out HGr.out)
            go_wp2_with fail
            go_ret
            exact HFIN.out
          · clear hlook
            have hok : okN true nm x.data.toList = true := by rw [z3]; rfl
            have HB5 : Hid (BH w0 V b off cap bv ba bw be g esr wn) := Lib.hid (HBr.out.other hgr L0 LM.out)
            have q0 : wn.cell? ⟨bw, 0, none⟩ = some (.func (.func 35) #[] #[.pointer (some ⟨bv, 0, none⟩), .pointer (some ⟨ba, 0, none⟩), .pointer (some ⟨bw, 0, none⟩), .pointer (some ⟨be, 0, none⟩)]) := by rw [Lib.cell_of_heap HB5.out.hw]; rfl
            have HGn : Hid (W.grownBy wn (some g)) := Lib.hid (grown_new HGr.out hgr (by omega))
            have HCn : Hid (wn.heap[W.heap.size]? = some (.cells #[.int .u8 (kk : Int), .string nx, .string tx, .int .i64 nu, .int .i64 (m : Int)] 33 (0, 0))) := Lib.hid ((hgr.block _ (heap_lt HC.out) (fun e => by have := Option.some.inj e; omega)).trans HC.out)
            have HNn := Lib.hid hN2
            clear hgr hN2
            cases hv : valN (d - 1) (V.drop p) with
            | none =>
              have HO := Lib.hid (HFAIL.out hok hv)
              have HI : Hid (Calls Tryd.prog 35 #[.int .i64 (p : Int), .int .i64 ((d : Int) - 1), .pointer (some ⟨bv, 0, none⟩), .pointer (some ⟨ba, 0, none⟩), .pointer (some ⟨bw, 0, none⟩), .pointer (some ⟨be, 0, none⟩)] wn fun e w' => BEnd V p (d - 1) g esr (-1) e wn w') := Lib.hid (by
                have := HIH.out wn esr p hpl HB5.out
                rw [endI_none hv] at this
                exact this)
              clear hv hok
              go_wp2_with fail
              refine HI.out.mono ?_; rintro e w5 hbe
              obtain ⟨rfl, hg5, es5, hh5, hs5, hf5⟩ := hbe
              have HB6 := Lib.hid (HB5.out.grown hg5 hh5 hs5)
              have HG6 := Lib.hid (grown_trans HGn.out hg5)
              clear hg5 hh5 hs5 hf5
              go_wp2_with fail
              go_roundg g1
              case measure => omega
              case rel => exact ⟨j + 1, es5, by go_num, by omega, HB6, HG6, Or.inr ⟨rfl, HO⟩⟩
            | some n =>
              have HO := Lib.hid (HNEXT.out n hok hv)
              have HI : Hid (Calls Tryd.prog 35 #[.int .i64 (p : Int), .int .i64 ((d : Int) - 1), .pointer (some ⟨bv, 0, none⟩), .pointer (some ⟨ba, 0, none⟩), .pointer (some ⟨bw, 0, none⟩), .pointer (some ⟨be, 0, none⟩)] wn fun e w' => BEnd V p (d - 1) g esr ((p + n : Nat) : Int) e wn w') := Lib.hid (by
                have := HIH.out wn esr p hpl HB5.out
                rw [endI_some hv] at this
                exact this)
              have hn1 := (valN_le _ _ _ hv).1
              have hn2 := (valN_le _ _ _ hv).2
              rw [List.length_drop] at hn2
              have HV2 := Lib.hid hv
              obtain ⟨p2, hp2⟩ : ∃ p2, p + n = p2 := ⟨_, rfl⟩
              have HP2 : Hid (p2 = k + 1 + (u + n)) := Lib.hid (by rw [← hp2, HPU.out]; omega)
              have hp3 : p2 ≤ V.length := by omega
              rw [hp2] at HI
              clear hv hok hp2 hn2
              go_wp2_with fail
              refine HI.out.mono ?_; rintro e w5 hbe
              obtain ⟨rfl, hg5, es5, hh5, hs5, hf5⟩ := hbe
              have HB6 := Lib.hid (HB5.out.grown hg5 hh5 hs5)
              have HG6 := Lib.hid (grown_trans HGn.out hg5)
              have HF6 := Lib.hid (fill_next HPU.out HF.out (hf5 n HV2.out))
              have HN6 : Hid (NamesM bm ((x.data.toList :: nm) ++ [[]]) w5) := Lib.hid (HNn.out.grown hg5 (fun e => by have h1 := Option.some.inj e; have h2 := LM.out.2.2.2.2; omega))
              have HC6 := Lib.hid ((hg5.block _ (heap_lt HCn.out) (fun e => by have h1 := Option.some.inj e; omega)).trans HCn.out)
              clear hg5 hh5 hs5 hf5
              go_wp2_with fail
              go_roundg g1
              case measure => omega
              case rel => exact ⟨j + 1, es5, by go_num, by omega, HB6, HG6, Or.inl ⟨p2, u + n, x.data.toList :: nm, rfl, hp3, HP2, by simp; omega, by omega, HO, HN6, HC6, HF6⟩⟩
        · have HO := Lib.hid (HK.out.out_ (by have := HPU.out; omega))
          have HFIN : Hid (BEnd V k d g es (endI V k d) (.returned (.int .i64 (-1))) W wr) := Lib.hid (bend_none (by rw [HV.out, HO.out]; rfl) HBr.out HES.out HGr.out)
          go_wp2_with fail
          go_ret
          exact HFIN.out
    · have HFIN : Hid (BEnd V k d g es (endI V k d) (.returned (.int .i64 (-1))) W wr) := Lib.hid (bend_none (by rw [HV.out, HO.out]; rfl) HBr.out HES.out HGr.out)
      by_cases hg0 : gk = 0
      · subst hg0
        go_wp2_with fail
        go_ret
        exact HFIN.out
      · have hlt : j < m := by omega
        go_wp2_with fail
        go_ret
        exact HFIN.out
end Go.Proofs.YteapenemnnhonaaDoor
