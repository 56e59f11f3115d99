/- Walks and plain laws of this proof, joined from smaller texts (3). -/
import Derived.Maps.AppendAt
import Derived.Lib.SliceRun
import Derived.Laws.StructEq
import Derived.ArgAppend
import Derived.Handy
import Derived.Maps.RangeWalk
import Derived.Test.YtbejhdhhkpllfaaGreatDoorShelf
import Derived.Deep.Draws
import Derived.Deep.LoopGhost
import Derived.Laws.EntriesVeiled
import Derived.Test.YtbejhdhhkpllfaaGreatDoorRo2
set_option linter.unusedSimpArgs false
set_option linter.unusedVariables false
namespace Go.Proofs.YtbejhdhhkpllfaaGreatDoor
open Go.RowKit
set_option maxRecDepth 100000 in
set_option maxHeartbeats 1000000 in
theorem bw_obj (w0 : World) (V : List Cel) (b off cap bv ba bw be g : Nat) (es : Array Value) (W : World) (k d : Nat) (hB : BH w0 V b off cap bv ba bw be g es W) (kk : Nat) (nx tx : ByteArray) (nu : Int) (m : Nat)
    (hk : k < V.length) (hl : V.length ≤ 100000) (hd : d ≤ 16)
    (c0 : W.cell? ⟨b, off + k * 5, none⟩ = some (.int .u8 (kk : Int))) (c1 : W.cell? ⟨b, off + k * 5 + 1, none⟩ = some (.string nx)) (c2 : W.cell? ⟨b, off + k * 5 + 2, none⟩ = some (.string tx)) (c3 : W.cell? ⟨b, off + k * 5 + 3, none⟩ = some (.int .i64 nu)) (c4 : W.cell? ⟨b, off + k * 5 + 4, none⟩ = some (.int .i64 (m : Int)))
    (hk7 : kk ≤ 7) (HT : Hid (∀ w : World, Below W.heap.size W w → Calls Tryz.prog (tfun kk) #[.string tx] w fun e w' => e = .returned (.bool true) ∧ Below w.heap.size w w'))
    (HN : Hid (∀ w : World, Calls Tryz.prog (nfun kk) #[.int .i64 nu] w fun e w' => e = .returned (.bool true) ∧ Below w.heap.size w w'))
    (hkk : kk = 7) (hcn : cnest kk = true) (hd1 : 0 < d) (hm0 : 0 < m) (hmx : (m : Int) ≤ 9223372036854775807)
    (HROW : Hid (CelRow b off V w0)) (hbl : b < w0.heap.size) (HSM : Hid (∀ c ∈ V, c.name.length ≤ 100000)) (o : Option Nat) (hkids : kidsN (valN (d - 1)) false m [] (V.drop (k + 1)) = o) (hval : valN d (V.drop k) = o.map (1 + ·))
    (HTX : Hid (∀ (W' : World) (x : ByteArray), x.size ≤ 100000 → Below w0.heap.size w0 W' → Calls Tryz.prog 84 #[.string x] W' fun e w' => e = .returned (.int .i64 (chkE x.data.toList)) ∧ Below W'.heap.size W' w'))
    (HIH : Hid (∀ (W' : World) (es' : Array Value) (p : Nat), p < V.length → BH w0 V b off cap bv ba bw be g es' W' → Calls Tryz.prog 83 #[.int .i64 (p : Int), .int .i64 ((d : Int) - 1), .pointer (some ⟨bv, 0, none⟩), .pointer (some ⟨ba, 0, none⟩), .pointer (some ⟨bw, 0, none⟩), .pointer (some ⟨be, 0, none⟩)] W' fun e w' => BEnd V p (d - 1) g es' (endI V p (d - 1)) e W' w')) :
    Calls Tryz.prog 83 #[.int .i64 (k : Int), .int .i64 (d : Int), .pointer (some ⟨bv, 0, none⟩), .pointer (some ⟨ba, 0, none⟩), .pointer (some ⟨bw, 0, none⟩), .pointer (some ⟨be, 0, none⟩)] W fun e w' => BEnd V k d g es (endI V k d) e W w' := by
  have v0 : W.cell? ⟨bv, 0, none⟩ = some (.slice (some ⟨b, off, none⟩) V.length cap) := by rw [Lib.cell_of_heap hB.hv]; rfl
  have HV := Lib.hid hval
  have HK0 := Lib.hid (KS.start hkids)
  have HKK := Lib.hid hkk
  have hd2 : ((d : Int) == 0) = false := by rw [beq_eq_false_iff_ne]; omega
  have t6 : ((kk : Int) == 6) = false := by rw [HKK.out]; rfl
  have t7 : ((kk : Int) == 7) = true := by rw [HKK.out]; rfl
  clear hval hkids hkk
  have lba := heap_lt hB.ha
  have lbv := heap_lt hB.hv
  obtain ⟨a0, a1, a2⟩ := kindsA_get kk hk7
  have k0 : W.cell? ⟨ba, kk * 3, none⟩ = some (.func (.func (tfun kk)) #[] #[]) := by rw [Lib.cell_of_heap hB.ha]; exact a0
  have k1 : W.cell? ⟨ba, kk * 3 + 1, none⟩ = some (.func (.func (nfun kk)) #[] #[]) := by rw [Lib.cell_of_heap hB.ha]; exact a1
  have k2 : W.cell? ⟨ba, kk * 3 + 2, none⟩ = some (.bool (cnest kk)) := by rw [Lib.cell_of_heap hB.ha]; exact a2
  have ht := tfun_ent kk
  have hn := nfun_ent kk
  clear a0 a1 a2
  generalize tfun kk = ft at *
  generalize nfun kk = fn at *
  rw [hcn] at k2
  clear hcn
  have HB := Lib.hid hB
  clear hB
  have HES : Hid (es.size = V.length) := Lib.hid HB.out.size
  have hmm := @run_makeMap Tryz.prog
  go_enter Tryz.func83, Tryz.ntmps83
  go_wp2_with fail
  refine (HT.out _ (((Below.refl _ _).alloc (Nat.le_refl _) _).alloc (by simp) _)).mono ?_; rintro e w1 ⟨rfl, hb⟩
  have hb1 : Below W.heap.size W w1 := (((Below.refl _ _).alloc (Nat.le_refl _) _).alloc (by simp) _).trans (hb.mono (by simp; omega))
  have hc : w1.heap[W.heap.size]? = some (.cells #[.int .u8 (kk : Int), .string nx, .string tx, .int .i64 nu, .int .i64 (m : Int)] 59 (0, 0)) := (hb.block _ (by simp; omega)).trans (heap_old (heap_new _ _ _ rfl))
  have hq : w1.heap[W.heap.size + 1]? = some (.cells #[.func (.func ft) #[] #[], .func (.func fn) #[] #[], .bool true] 123 (0, 0)) := (hb.block _ (by simp)).trans (heap_new _ _ _ (by simp))
  clear hb
  have w1c0 : w1.cell? ⟨W.heap.size, 0, none⟩ = some (.int .u8 (kk : Int)) := by rw [Lib.cell_of_heap hc]; rfl
  have w1c1 : w1.cell? ⟨W.heap.size, 1, none⟩ = some (.string nx) := by rw [Lib.cell_of_heap hc]; rfl
  have w1c2 : w1.cell? ⟨W.heap.size, 2, none⟩ = some (.string tx) := by rw [Lib.cell_of_heap hc]; rfl
  have w1c3 : w1.cell? ⟨W.heap.size, 3, none⟩ = some (.int .i64 nu) := by rw [Lib.cell_of_heap hc]; rfl
  have w1c4 : w1.cell? ⟨W.heap.size, 4, none⟩ = some (.int .i64 (m : Int)) := by rw [Lib.cell_of_heap hc]; rfl
  have w1q0 : w1.cell? ⟨W.heap.size + 1, 0, none⟩ = some (.func (.func ft) #[] #[]) := by rw [Lib.cell_of_heap hq]; rfl
  have w1q1 : w1.cell? ⟨W.heap.size + 1, 1, none⟩ = some (.func (.func fn) #[] #[]) := by rw [Lib.cell_of_heap hq]; rfl
  have w1q2 : w1.cell? ⟨W.heap.size + 1, 2, none⟩ = some (.bool true) := by rw [Lib.cell_of_heap hq]; rfl
  have HC := Lib.hid hc
  have HQ := Lib.hid hq
  have HB1 := Lib.hid hb1
  clear hc hq hb1
  go_wp2_with fail
  refine (HN.out _).mono ?_; rintro e w2 ⟨rfl, hb⟩
  clear w1c0 w1c1 w1c2 w1c3 w1c4 w1q0 w1q1 w1q2
  have hb2 : Below W.heap.size W w2 := HB1.out.trans (hb.mono HB1.out.size)
  have hc : w2.heap[W.heap.size]? = some (.cells #[.int .u8 (kk : Int), .string nx, .string tx, .int .i64 nu, .int .i64 (m : Int)] 59 (0, 0)) := (hb.block _ (heap_lt HC.out)).trans HC.out
  have hq : w2.heap[W.heap.size + 1]? = some (.cells #[.func (.func ft) #[] #[], .func (.func fn) #[] #[], .bool true] 123 (0, 0)) := (hb.block _ (heap_lt HQ.out)).trans HQ.out
  clear hb
  have w2c0 : w2.cell? ⟨W.heap.size, 0, none⟩ = some (.int .u8 (kk : Int)) := by rw [Lib.cell_of_heap hc]; rfl
  have w2c1 : w2.cell? ⟨W.heap.size, 1, none⟩ = some (.string nx) := by rw [Lib.cell_of_heap hc]; rfl
  have w2c2 : w2.cell? ⟨W.heap.size, 2, none⟩ = some (.string tx) := by rw [Lib.cell_of_heap hc]; rfl
  have w2c3 : w2.cell? ⟨W.heap.size, 3, none⟩ = some (.int .i64 nu) := by rw [Lib.cell_of_heap hc]; rfl
  have w2c4 : w2.cell? ⟨W.heap.size, 4, none⟩ = some (.int .i64 (m : Int)) := by rw [Lib.cell_of_heap hc]; rfl
  have w2q0 : w2.cell? ⟨W.heap.size + 1, 0, none⟩ = some (.func (.func ft) #[] #[]) := by rw [Lib.cell_of_heap hq]; rfl
  have w2q1 : w2.cell? ⟨W.heap.size + 1, 1, none⟩ = some (.func (.func fn) #[] #[]) := by rw [Lib.cell_of_heap hq]; rfl
  have w2q2 : w2.cell? ⟨W.heap.size + 1, 2, none⟩ = some (.bool true) := by rw [Lib.cell_of_heap hq]; rfl
  have HC2 := Lib.hid hc
  have HQ2 := Lib.hid hq
  have HB2 := Lib.hid hb2
  clear hc hq hb2 HC HQ HB1
  obtain ⟨wm, hrun, hN, hgr⟩ := (NamesM.made w2).update ⟨#[]⟩ (by decide) (by decide)
  have HNM : Hid (NamesM w2.heap.size ([] ++ [[]]) wm) := Lib.hid hN
  have hz2 := HB2.out.size
  have hgw : W.grownBy wm (some g) := ⟨hgr.os.trans HB2.out.os, hgr.tape.trans HB2.out.tape, hgr.output.trans HB2.out.output, Nat.le_trans hz2 (Nat.le_trans (by simp) hgr.size), fun i hi _ => ((hgr.block i (by simp; omega) (fun e => by have := Option.some.inj e; omega)).trans (Below.heap_alloc _ _ _ (by omega))).trans (HB2.out.block i hi)⟩
  have hbm : BH w0 V b off cap bv ba bw be g es wm := HB.out.below ⟨hgw.os, hgw.tape, hgw.output, hgw.size, fun i hi => ((hgr.block i (by simp; omega) (fun e => by have := Option.some.inj e; omega)).trans (Below.heap_alloc _ _ _ (by omega))).trans (HB2.out.block i hi)⟩
  have hcm : wm.heap[W.heap.size]? = some (.cells #[.int .u8 (kk : Int), .string nx, .string tx, .int .i64 nu, .int .i64 (m : Int)] 59 (0, 0)) := ((hgr.block _ (by have := heap_lt HC2.out; simp; omega) (fun e => by have h1 := Option.some.inj e; have h2 := heap_lt HC2.out; omega)).trans (Below.heap_alloc _ _ _ (heap_lt HC2.out))).trans HC2.out
  have HGW := Lib.hid hgw
  have HBM := Lib.hid hbm
  have HCM := Lib.hid hcm
  have m4 : wm.cell? ⟨W.heap.size, 4, none⟩ = some (.int .i64 (m : Int)) := by rw [Lib.cell_of_heap hcm]; rfl
  clear hgw hbm hcm
  go_wp2_with fail
  clear hrun hmm ht hn m4
  have LM : Hid (bv < w2.heap.size ∧ ba < w2.heap.size ∧ bw < w2.heap.size ∧ be < w2.heap.size ∧ g < w2.heap.size) := Lib.hid ⟨Nat.lt_of_lt_of_le (heap_lt HB.out.hv) hz2, Nat.lt_of_lt_of_le (heap_lt HB.out.ha) hz2, Nat.lt_of_lt_of_le (heap_lt HB.out.hw) hz2, Nat.lt_of_lt_of_le (heap_lt HB.out.he) hz2, Nat.lt_of_lt_of_le (heap_lt HB.out.hg) hz2⟩
  have L0 : w0.heap.size ≤ w2.heap.size := Nat.le_trans HB.out.bel.size hz2
  have lW : W.heap.size < w2.heap.size := heap_lt HC2.out
  have lgW : g < W.heap.size := heap_lt HB.out.hg
  clear hN hgr w2c0 w2c1 w2c2 w2c3 w2c4 w2q0 w2q1 w2q2 HQ2 HC2 HB2 HB hz2
  generalize w2.heap.size = bm at *
  go_loopg [12, 79] m (fun gk nv ct wr => ∃ (j : Nat) (esr : Array Value), ct = .int .i64 j ∧ gk + j = m ∧ Hid (BH w0 V b off cap bv ba bw be g esr wr) ∧ Hid (W.grownBy wr (some g)) ∧
    ((∃ (p u : Nat) (nm : List (List UInt8)), nv = .int .i64 (p : Int) ∧ p ≤ V.length ∧ Hid (p = k + 1 + u) ∧ nm.length ≤ j ∧ j ≤ u ∧ Hid (KS V (d - 1) k false o gk nm u) ∧ Hid (NamesM bm (nm ++ [[]]) wr) ∧ Hid (wr.heap[W.heap.size]? = some (.cells #[.int .u8 (kk : Int), .string nx, .string tx, .int .i64 nu, .int .i64 (m : Int)] 59 (0, 0))) ∧
      Hid ((∀ i, i < k + 1 ∨ k + 1 + u ≤ i → esr[i]? = es[i]?) ∧ ∀ i, k + 1 ≤ i → i < k + 1 + u → esr[i]? = some (.int .i64 (endI V i 16)))) ∨ (nv = .int .i64 (-1) ∧ Hid (o = none))))
  case atStart => exact ⟨0, es, rfl, by omega, HBM, HGW, Or.inl ⟨k + 1, 0, [], by go_num, by omega, Lib.hid rfl, Nat.le_refl _, Nat.le_refl _, HK0, HNM, HCM, Lib.hid ⟨fun i _ => rfl, fun i h1 h2 => by omega⟩⟩⟩
  case round =>
    rename World => wr
    obtain ⟨j, esr, rfl, hj, HBr, HGr, hrel2⟩ := hrel
    rcases hrel2 with ⟨p, u, nm, rfl, hp, HPU, hnm, hju, HK, HN, HC, HF⟩ | ⟨rfl, HO⟩
    · by_cases hg0 : gk = 0
      · subst hg0
        have HO := Lib.hid HK.out.done
        have e0 : wr.cell? ⟨be, 0, none⟩ = some (.slice (some ⟨g, 0, none⟩) V.length V.length) := by rw [Lib.cell_of_heap HBr.out.he]; rfl
        have hks : k < esr.size := by rw [HBr.out.size]; exact hk
        have e1 : wr.cell? ⟨g, k, none⟩ = some (esr[k]) := by rw [Lib.cell_of_heap HBr.out.hg]; exact Array.getElem?_eq_getElem hks
        have e2 : wr.frozen? ⟨g, k, none⟩ = false := Lib.frozen_of_heap HBr.out.hg k
        generalize esr[k] = ek at *
        have hval2 : valN d (V.drop k) = some (1 + u) := by rw [HV.out, HO.out]; rfl
        have HPK : Hid (p = k + (1 + u)) := Lib.hid (by rw [HPU.out]; omega)
        have HFIN : Hid (BEnd V k d g es (endI V k d) (.returned (.int .i64 (p : Int))) W (wr.setCell ⟨g, k, none⟩ (.int .i64 (p : Int)))) := Lib.hid (by
          rw [HPK.out]
          exact bend_yes hval2 hd hk HES.out HBr.out.hg (by rw [HBr.out.size, HES.out]) HGr.out (fun i h => HF.out.1 i (by omega)) (fun i h1 h2 => HF.out.2 i h1 (by omega)))
        clear hval2
        go_wp2_with fail
        go_ret
        exact HFIN.out
      · obtain ⟨g1, rfl⟩ : ∃ g1, gk = g1 + 1 := ⟨gk - 1, by omega⟩
        clear hg0
        have r0 : wr.cell? ⟨bv, 0, none⟩ = some (.slice (some ⟨b, off, none⟩) V.length cap) := by rw [Lib.cell_of_heap HBr.out.hv]; rfl
        by_cases hpl : p < V.length
        · obtain ⟨_, r1, _⟩ := (HROW.out.below HBr.out.bel hbl) p hpl
          have r2 : wr.cell? ⟨W.heap.size, 0, none⟩ = some (.int .u8 (kk : Int)) := by rw [Lib.cell_of_heap HC.out]; rfl
          have hxz : (⟨V[p].name.toArray⟩ : ByteArray).size = V[p].name.length := by show V[p].name.toArray.size = _; simp
          have hxl : (⟨V[p].name.toArray⟩ : ByteArray).data.toList = V[p].name := by simp
          have hxs : (⟨V[p].name.toArray⟩ : ByteArray).size ≤ 100000 := by rw [hxz]; exact HSM.out _ (List.getElem_mem _)
          have HBAD := Lib.hid (fun h => HK.out.bad HPU.out hpl h)
          have HFAIL := Lib.hid (fun h h' => HK.out.fail HPU.out hpl h h')
          have HNEXT := Lib.hid (fun n h h' => HK.out.next (n := n) HPU.out hpl h h')
          rw [← hxl] at HBAD HFAIL HNEXT
          clear hxz hxl
          generalize (⟨V[p].name.toArray⟩ : ByteArray) = x at *
          have hu : u ≤ 100000 := by have := HPU.out; omega
          have hlook := HN.out.lookup x (by unfold maxLen; omega)
          rw [amongB_app] at hlook
          obtain ⟨wn, hrun, hN2, hgr⟩ := HN.out.update x (by unfold maxLen; omega) (by simp; omega)
          cases hq : (amongB nm x.data.toList || x.data.toList.isEmpty) with
          | true =>
            rw [hq, if_pos rfl] at hlook
            have HO := Lib.hid (HBAD.out (by
              unfold okN
              rw [if_neg Bool.false_ne_true]
              cases h1 : x.data.toList.isEmpty with
              | true => simp
              | false => rw [h1, Bool.or_false] at hq; simp [hq]))
            clear hq hrun hgr hN2
            have HFIN : Hid (BEnd V k d g es (endI V k d) (.returned (.int .i64 (-1))) W wr) := Lib.hid (bend_none (by rw [HV.out, HO.out]; rfl) HBr.out HES.out HGr.out)
            go_wp2_with fail
            go_ret
            exact HFIN.out
          | false =>
            rw [hq, if_neg Bool.false_ne_true] at hlook
            rw [Bool.or_eq_false_iff] at hq
            have HT := Lib.hid (HTX.out wr x hxs HBr.out.bel)
            by_cases hchk : chkE x.data.toList = 0
            · have hok0 : okN false nm x.data.toList = true := by
                unfold okN
                rw [if_neg Bool.false_ne_true, hq.1, hq.2, chkE_text, hchk]; rfl
              have HOK := Lib.hid hok0
              rw [hchk] at HT
              clear hok0 hq hchk hrun hgr hN2
              go_wp2_with fail
              refine HT.out.mono ?_; rintro e w6 ⟨rfl, hb6⟩
              clear hlook
              have HBs := Lib.hid (HBr.out.below hb6)
              have HGs := Lib.hid (grown_trans HGr.out (grown_below hb6 _))
              have HCs : Hid (w6.heap[W.heap.size]? = some (.cells #[.int .u8 (kk : Int), .string nx, .string tx, .int .i64 nu, .int .i64 (m : Int)] 59 (0, 0))) := Lib.hid ((hb6.block _ (heap_lt HC.out)).trans HC.out)
              have HNs := Lib.hid (HN.out.below hb6)
              obtain ⟨wn, hrun, hN2, hgr⟩ := HNs.out.update x (by unfold maxLen; omega) (by simp; omega)
              clear hb6
              have hok : okN false nm x.data.toList = true := HOK.out
              have HB5 : Hid (BH w0 V b off cap bv ba bw be g esr wn) := Lib.hid (HBs.out.other hgr L0 LM.out)
              have q0 : wn.cell? ⟨bw, 0, none⟩ = some (.func (.func 83) #[] #[.pointer (some ⟨bv, 0, none⟩), .pointer (some ⟨ba, 0, none⟩), .pointer (some ⟨bw, 0, none⟩), .pointer (some ⟨be, 0, none⟩)]) := by rw [Lib.cell_of_heap HB5.out.hw]; rfl
              have HGn : Hid (W.grownBy wn (some g)) := Lib.hid (grown_new HGs.out hgr (by omega))
              have HCn : Hid (wn.heap[W.heap.size]? = some (.cells #[.int .u8 (kk : Int), .string nx, .string tx, .int .i64 nu, .int .i64 (m : Int)] 59 (0, 0))) := Lib.hid ((hgr.block _ (heap_lt HCs.out) (fun e => by have := Option.some.inj e; omega)).trans HCs.out)
              have HNn := Lib.hid hN2
              clear hgr hN2
              cases hv : valN (d - 1) (V.drop p) with
              | none =>
                have HO := Lib.hid (HFAIL.out hok hv)
                have HI : Hid (Calls Tryz.prog 83 #[.int .i64 (p : Int), .int .i64 ((d : Int) - 1), .pointer (some ⟨bv, 0, none⟩), .pointer (some ⟨ba, 0, none⟩), .pointer (some ⟨bw, 0, none⟩), .pointer (some ⟨be, 0, none⟩)] wn fun e w' => BEnd V p (d - 1) g esr (-1) e wn w') := Lib.hid (by
                  have := HIH.out wn esr p hpl HB5.out
                  rw [endI_none hv] at this
                  exact this)
                clear hv hok
                go_wp2_with fail
                refine HI.out.mono ?_; rintro e w5 hbe
                obtain ⟨rfl, hg5, es5, hh5, hs5, hf5⟩ := hbe
                have HB6 := Lib.hid (HB5.out.grown hg5 hh5 hs5)
                have HG6 := Lib.hid (grown_trans HGn.out hg5)
                clear hg5 hh5 hs5 hf5
                go_wp2_with fail
                go_roundg g1
                case measure => omega
                case rel => exact ⟨j + 1, es5, by go_num, by omega, HB6, HG6, Or.inr ⟨rfl, HO⟩⟩
              | some n =>
                have HO := Lib.hid (HNEXT.out n hok hv)
                have HI : Hid (Calls Tryz.prog 83 #[.int .i64 (p : Int), .int .i64 ((d : Int) - 1), .pointer (some ⟨bv, 0, none⟩), .pointer (some ⟨ba, 0, none⟩), .pointer (some ⟨bw, 0, none⟩), .pointer (some ⟨be, 0, none⟩)] wn fun e w' => BEnd V p (d - 1) g esr ((p + n : Nat) : Int) e wn w') := Lib.hid (by
                  have := HIH.out wn esr p hpl HB5.out
                  rw [endI_some hv] at this
                  exact this)
                have hn1 := (valN_le _ _ _ hv).1
                have hn2 := (valN_le _ _ _ hv).2
                rw [List.length_drop] at hn2
                have HV2 := Lib.hid hv
                obtain ⟨p2, hp2⟩ : ∃ p2, p + n = p2 := ⟨_, rfl⟩
                have HP2 : Hid (p2 = k + 1 + (u + n)) := Lib.hid (by rw [← hp2, HPU.out]; omega)
                have hp3 : p2 ≤ V.length := by omega
                rw [hp2] at HI
                clear hv hok hp2 hn2
                go_wp2_with fail
                refine HI.out.mono ?_; rintro e w5 hbe
                obtain ⟨rfl, hg5, es5, hh5, hs5, hf5⟩ := hbe
                have HB6 := Lib.hid (HB5.out.grown hg5 hh5 hs5)
                have HG6 := Lib.hid (grown_trans HGn.out hg5)
                have HF6 := Lib.hid (fill_next HPU.out HF.out (hf5 n HV2.out))
                have HN6 : Hid (NamesM bm ((x.data.toList :: nm) ++ [[]]) w5) := Lib.hid (HNn.out.grown hg5 (fun e => by have h1 := Option.some.inj e; have h2 := LM.out.2.2.2.2; omega))
                have HC6 := Lib.hid ((hg5.block _ (heap_lt HCn.out) (fun e => by have h1 := Option.some.inj e; omega)).trans HCn.out)
                clear hg5 hh5 hs5 hf5
                go_wp2_with fail
                go_roundg g1
                case measure => omega
                case rel => exact ⟨j + 1, es5, by go_num, by omega, HB6, HG6, Or.inl ⟨p2, u + n, x.data.toList :: nm, rfl, hp3, HP2, by simp; omega, by omega, HO, HN6, HC6, HF6⟩⟩
            · have hne0 : (chkE x.data.toList != 0) = true := by rw [bne_iff_ne]; exact hchk
              have HO := Lib.hid (HBAD.out (by
                unfold okN
                have : textB x.data.toList = false := by rw [chkE_text]; exact beq_eq_false_iff_ne.2 hchk
                rw [if_neg Bool.false_ne_true, this]; simp))
              have HFIN : Hid (∀ w6 : World, Below wr.heap.size wr w6 → BEnd V k d g es (endI V k d) (.returned (.int .i64 (-1))) W w6) := Lib.hid (fun w6 h6 => bend_none (by rw [HV.out, HO.out]; rfl) (HBr.out.below h6) HES.out (grown_trans HGr.out (grown_below h6 _)))
              clear hq hchk hrun hgr hN2
              generalize chkE x.data.toList = ce at *
              go_wp2_with fail
              refine HT.out.mono ?_; rintro e w6 ⟨rfl, hb6⟩
              have HFIN2 := Lib.hid (HFIN.out _ hb6)
              clear hlook hb6
              go_wp2_with fail
              go_ret
              exact HFIN2.out
        · have HO := Lib.hid (HK.out.out_ (by have := HPU.out; omega))
          have HFIN : Hid (BEnd V k d g es (endI V k d) (.returned (.int .i64 (-1))) W wr) := Lib.hid (bend_none (by rw [HV.out, HO.out]; rfl) HBr.out HES.out HGr.out)
          go_wp2_with fail
          go_ret
          exact HFIN.out
    · have HFIN : Hid (BEnd V k d g es (endI V k d) (.returned (.int .i64 (-1))) W wr) := Lib.hid (bend_none (by rw [HV.out, HO.out]; rfl) HBr.out HES.out HGr.out)
      by_cases hg0 : gk = 0
      · subst hg0
        go_wp2_with fail
        go_ret
        exact HFIN.out
      · have hlt : j < m := by omega
        go_wp2_with fail
        go_ret
        exact HFIN.out
end Go.Proofs.YtbejhdhhkpllfaaGreatDoor
namespace Go.Proofs.YtbejhdhhkpllfaaGreatDoor
open Go.RowKit
theorem valN_drop (V : List Cel) (k d : Nat) (hk : k < V.length) : valN d (V.drop k) = if oneC V[k] then (if nestC V[k] then (match d with | 0 => none | d' + 1 => (kidsN (valN d') (V[k].kind == 6) V[k].many.toNat [] (V.drop (k + 1))).map (1 + ·)) else some 1) else none := by
  rw [List.drop_eq_getElem_cons hk]
  cases d with
  | zero =>
    rw [valN_zero, headN_cons]
    cases oneC V[k] <;> cases nestC V[k] <;> rfl
  | succ d => rw [valN_more, headN_cons]
theorem behind_case (w0 : World) (V : List Cel) (b off cap bv ba bw be g : Nat) (hrow : CelRow b off V w0) (hbl : b < w0.heap.size) (hs : SmallV V) (hE : EnvU w0)
    (HSM : Hid (∀ c ∈ V, c.name.length ≤ 100000)) (HTX : Hid (∀ (W' : World) (x : ByteArray), x.size ≤ 100000 → Below w0.heap.size w0 W' → Calls Tryz.prog 84 #[.string x] W' fun e w' => e = .returned (.int .i64 (chkE x.data.toList)) ∧ Below W'.heap.size W' w'))
    (d : Nat) (hd : d ≤ 16) (W : World) (es : Array Value) (k : Nat) (hk : k < V.length) (hB : BH w0 V b off cap bv ba bw be g es W)
    (HIH : 0 < d → Hid (∀ (W' : World) (es' : Array Value) (p : Nat), p < V.length → BH w0 V b off cap bv ba bw be g es' W' → Calls Tryz.prog 83 #[.int .i64 (p : Int), .int .i64 ((d : Int) - 1), .pointer (some ⟨bv, 0, none⟩), .pointer (some ⟨ba, 0, none⟩), .pointer (some ⟨bw, 0, none⟩), .pointer (some ⟨be, 0, none⟩)] W' fun e w' => BEnd V p (d - 1) g es' (endI V p (d - 1)) e W' w')) :
    Calls Tryz.prog 83 #[.int .i64 (k : Int), .int .i64 (d : Int), .pointer (some ⟨bv, 0, none⟩), .pointer (some ⟨ba, 0, none⟩), .pointer (some ⟨bw, 0, none⟩), .pointer (some ⟨be, 0, none⟩)] W fun e w' => BEnd V k d g es (endI V k d) e W w' := by
  obtain ⟨c0, c1, c2, c3, c4⟩ := (hrow.below hB.bel hbl) k hk
  obtain ⟨s1, s2, s3, s4⟩ := hs.2 V[k] (List.getElem_mem _)
  have htz : (⟨V[k].text.toArray⟩ : ByteArray).size = V[k].text.length := by show V[k].text.toArray.size = _; simp
  have hkl := UInt8.toNat_lt V[k].kind
  have hone := one_kind V[k]
  have hnest := nest_kind V[k]
  have hval := valN_drop V k d hk
  have no : ∀ {e : Ending} {w' : World}, valN d (V.drop k) = none → e = .returned (.int .i64 (-1)) ∧ Below W.heap.size W w' → BEnd V k d g es (endI V k d) e W w' := by
    rintro e w' hn ⟨rfl, hb⟩
    exact bend_no hn hB.hg hb
  by_cases h7 : 7 < V[k].kind.toNat
  · have hn : valN d (V.drop k) = none := by rw [hval, hone, decide_eq_false (by omega)]; rfl
    exact (bw_big w0 V b off cap bv ba bw be g es W k d hB _ _ _ _ _ hk hs.1 hd c0 c1 c2 c3 c4 h7 (by omega)).mono fun e w' h => no hn h
  rw [decide_eq_true (by omega), Bool.true_and] at hone
  have HT : Hid (∀ w : World, Below W.heap.size W w → Calls Tryz.prog (tfun V[k].kind.toNat) #[.string ⟨V[k].text.toArray⟩] w fun e w' => e = .returned (.bool (ctext V[k].kind.toNat V[k].text)) ∧ Below w.heap.size w w') := Lib.hid fun w hw => by
    have := tfun_any V[k].kind.toNat ⟨V[k].text.toArray⟩ (by omega) w (hE.below (hB.bel.trans (hw.mono hB.bel.size)))
    simpa using this
  have HN : Hid (∀ w : World, Calls Tryz.prog (nfun V[k].kind.toNat) #[.int .i64 V[k].num] w fun e w' => e = .returned (.bool (cnum V[k].kind.toNat V[k].num)) ∧ Below w.heap.size w w') := Lib.hid fun w => nfun_any _ _ w
  cases ht : ctext V[k].kind.toNat V[k].text with
  | false =>
    rw [ht] at HT hone
    have hn : valN d (V.drop k) = none := by rw [hval, hone]; rfl
    exact (bw_text w0 V b off cap bv ba bw be g es W k d hB _ _ _ _ _ hk hs.1 hd c0 c1 c2 c3 c4 (by omega) HT).mono fun e w' h => no hn h
  | true =>
    rw [ht, Bool.true_and] at hone
    rw [ht] at HT
    cases hnu : cnum V[k].kind.toNat V[k].num with
    | false =>
      rw [hnu] at HN hone
      have hn : valN d (V.drop k) = none := by rw [hval, hone]; rfl
      exact (bw_num w0 V b off cap bv ba bw be g es W k d hB _ _ _ _ _ hk hs.1 hd c0 c1 c2 c3 c4 (by omega) HT HN).mono fun e w' h => no hn h
    | true =>
      rw [hnu, Bool.true_and] at hone
      rw [hnu] at HN
      by_cases hm : V[k].many < 0
      · have hn : valN d (V.drop k) = none := by
          rw [hval, hone]
          cases cnest V[k].kind.toNat with
          | true => rw [if_pos rfl, decide_eq_false (by omega)]; rfl
          | false => rw [if_neg Bool.false_ne_true, beq_eq_false_iff_ne.2 (by omega)]; rfl
        exact (bw_neg w0 V b off cap bv ba bw be g es W k d hB _ _ _ _ _ hk hs.1 hd c0 c1 c2 c3 c4 (by omega) HT HN hm).mono fun e w' h => no hn h
      · cases hcn : cnest V[k].kind.toNat with
        | false =>
          rw [hcn, if_neg Bool.false_ne_true] at hone
          by_cases hm0 : V[k].many = 0
          · rw [hm0] at c4 hone
            have hv1 : valN d (V.drop k) = some 1 := by rw [hval, hone, hnest, hcn]; rfl
            exact bw_zero_leaf w0 V b off cap bv ba bw be g es W k d hB _ _ _ _ hk hs.1 hd c0 c1 c2 c3 c4 (by omega) HT HN hcn hv1
          · have hn : valN d (V.drop k) = none := by rw [hval, hone, beq_eq_false_iff_ne.2 hm0]; rfl
            exact (bw_leaf w0 V b off cap bv ba bw be g es W k d hB _ _ _ _ _ hk hs.1 hd c0 c1 c2 c3 c4 (by omega) HT HN (by omega) hcn (by omega)).mono fun e w' h => no hn h
        | true =>
          rw [hcn, if_pos rfl, decide_eq_true (by omega)] at hone
          by_cases hd0 : d = 0
          · have hn : valN d (V.drop k) = none := by rw [hval, hone, hnest, hcn]; subst hd0; rfl
            exact (bw_deep w0 V b off cap bv ba bw be g es W k d hB _ _ _ _ _ hk hs.1 hd c0 c1 c2 c3 c4 (by omega) HT HN (by omega) hcn hd0).mono fun e w' h => no hn h
          · obtain ⟨d', rfl⟩ : ∃ d', d = d' + 1 := ⟨d - 1, by omega⟩
            rw [hone, hnest, hcn, if_pos rfl, if_pos rfl] at hval
            dsimp only at hval
            obtain ⟨m, hm2⟩ := Int.eq_ofNat_of_zero_le (show 0 ≤ V[k].many by omega)
            rw [hm2] at c4
            have hmt : V[k].many.toNat = m := by rw [hm2]; rfl
            rw [hmt] at hval
            by_cases hm0 : m = 0
            · subst hm0
              have hv1 : valN (d' + 1) (V.drop k) = some 1 := by rw [hval]; cases V.drop (k + 1) <;> rfl
              exact bw_zero_nest w0 V b off cap bv ba bw be g es W k (d' + 1) hB _ _ _ _ hk hs.1 hd c0 c1 c2 c3 c4 (by omega) HT HN hcn (by omega) hv1
            · have hmx : (m : Int) ≤ 9223372036854775807 := by rw [← hm2]; exact s4.2
              have h67 : V[k].kind.toNat = 6 ∨ V[k].kind.toNat = 7 := by
                unfold cnest at hcn
                rw [Bool.or_eq_true, beq_iff_eq, beq_iff_eq] at hcn
                exact hcn
              rcases h67 with h6 | h6
              · have hk6 : (V[k].kind == 6) = true := beq_iff_eq.2 (UInt8.toNat_inj.1 h6)
                rw [hk6] at hval
                exact bw_list w0 V b off cap bv ba bw be g es W k (d' + 1) hB _ _ _ _ m hk hs.1 hd c0 c1 c2 c3 c4 (by omega) HT HN h6 hcn (by omega) (by omega) hmx (Lib.hid hrow) hbl HSM _ rfl hval HTX (HIH (by omega))
              · have hk6 : (V[k].kind == 6) = false := beq_eq_false_iff_ne.2 fun e => by rw [e] at h6; exact absurd h6 (by decide)
                rw [hk6] at hval
                exact bw_obj w0 V b off cap bv ba bw be g es W k (d' + 1) hB _ _ _ _ m hk hs.1 hd c0 c1 c2 c3 c4 (by omega) HT HN h6 hcn (by omega) (by omega) hmx (Lib.hid hrow) hbl HSM _ rfl hval HTX (HIH (by omega))
theorem behind_walk (w0 : World) (V : List Cel) (b off cap bv ba bw be g : Nat) (hrow : CelRow b off V w0) (hbl : b < w0.heap.size) (hs : SmallV V) (hE : EnvU w0) :
    ∀ d : Nat, d ≤ 16 → ∀ (W : World) (es : Array Value) (k : Nat), k < V.length → BH w0 V b off cap bv ba bw be g es W →
      Calls Tryz.prog 83 #[.int .i64 (k : Int), .int .i64 (d : Int), .pointer (some ⟨bv, 0, none⟩), .pointer (some ⟨ba, 0, none⟩), .pointer (some ⟨bw, 0, none⟩), .pointer (some ⟨be, 0, none⟩)] W fun e w' => BEnd V k d g es (endI V k d) e W w' := by
  have HSM : Hid (∀ c ∈ V, c.name.length ≤ 100000) := Lib.hid fun c hc => (hs.2 c hc).1
  have HTX : Hid (∀ (W' : World) (x : ByteArray), x.size ≤ 100000 → Below w0.heap.size w0 W' → Calls Tryz.prog 84 #[.string x] W' fun e w' => e = .returned (.int .i64 (chkE x.data.toList)) ∧ Below W'.heap.size W' w') := Lib.hid fun W' x hx hb => tcheck_any x (by omega) W' (hE.below hb)
  intro d
  induction d with
  | zero => 
    intro hd W es k hk hB
    exact behind_case w0 V b off cap bv ba bw be g hrow hbl hs hE HSM HTX 0 hd W es k hk hB (fun h => absurd h (by decide))
  | succ d ih =>
    intro hd W es k hk hB
    refine behind_case w0 V b off cap bv ba bw be g hrow hbl hs hE HSM HTX (d + 1) hd W es k hk hB (fun _ => Lib.hid fun W' es' p hp hB' => ?_)
    have := ih (by omega) W' es' p hp hB'
    rw [show ((d + 1 : Nat) : Int) - 1 = (d : Int) from by omega, show d + 1 - 1 = d from rfl]
    exact this
end Go.Proofs.YtbejhdhhkpllfaaGreatDoor
namespace Go.Proofs.YtbejhdhhkpllfaaGreatDoor
open Go.RowKit
theorem row_laid (w1 : World) (old cs : Array Value) (T : TypeId) : ∃ w2, (w1.alloc (.cells old T)).setRow w1.heap.size cs = w2 ∧ w2.heap[w1.heap.size]? = some (.cells cs T (0, 0)) ∧ Below w1.heap.size w1 w2 ∧ w2.heap.size = w1.heap.size + 1 :=
  ⟨_, rfl, setRow_heap _ _ _ cs _ _ (heap_alloc_new w1 _), below_setRow ((Below.refl _ _).alloc (Nat.le_refl _) _) (Nat.le_refl _) _, by simp⟩
theorem made_row {W : World} {n g : Nat} {xs : List Value} {B : Nat} (h : W.ownsRow B 3 1 (.slice (some ⟨g, 0, none⟩) n n) n xs) (hn : 0 < n) : ∃ cur : Array Value, W.heap[g]? = some (.cells cur 3 (0, 0)) ∧ cur.size = n := by
  obtain ⟨h1, h2⟩ := h
  rcases h2 with ⟨h2, h3⟩ | ⟨g', cap, cur, hv, hB, hg, hn', hc, hcs, ht⟩
  · cases h2
  · injection hv with e1 e2 e3
    injection e1 with e1
    injection e1 with e1
    subst e1 e3
    exact ⟨cur, hg, by omega⟩
/-- What the outermost call of behind's inner function leaves. -/
def BTop (V : List Cel) (w0 : World) (b off cap bv ba bw be g : Nat) (W W' : World) : Prop :=
  W.grownBy W' (some g) ∧ ∃ es : Array Value, BH w0 V b off cap bv ba bw be g es W' ∧ (valN 16 V = some V.length → ∀ i, i < V.length → es[i]? = some (.int .i64 (endI V i 16)))
theorem keepT {w0 W W' : World} {V : List Cel} {b off cap bv ba bw be g : Nat} {f s : Value} (h : BTop V w0 b off cap bv ba bw be g W W') (nw : bw ≠ g) (nv : bv ≠ g) (hS : W.cell? ⟨bw, 0, none⟩ = some f ∧ W.cell? ⟨bv, 0, none⟩ = some s ∧ Hid (∃ es, BH w0 V b off cap bv ba bw be g es W)) :
    W'.cell? ⟨bw, 0, none⟩ = some f ∧ W'.cell? ⟨bv, 0, none⟩ = some s ∧ Hid (∃ es, BH w0 V b off cap bv ba bw be g es W') := by
  obtain ⟨h1, h2, h3⟩ := hS
  obtain ⟨g1, es, g2, _⟩ := h
  exact ⟨g1.cell (a := ⟨bw, 0, none⟩) h1 (fun e => nw (Option.some.inj e)), g1.cell (a := ⟨bv, 0, none⟩) h2 (fun e => nv (Option.some.inj e)), Lib.hid ⟨es, g2⟩⟩
def BIn (V : List Cel) (r : Int) (B : Nat) (e : Ending) (w' : World) : Prop := if r = (V.length : Int) then ∃ (g : Nat) (es : Array Value), e = .returned (.slice (some ⟨g, 0, none⟩) V.length V.length) ∧ B ≤ g ∧ w'.heap[g]? = some (.cells es 3 (0, 0)) ∧ es.size = V.length ∧ ∀ i, i < V.length → es[i]? = some (.int .i64 (endI V i 16)) else e = .returned (.slice none 0 0)
/-- What behind hands back. -/
def BRet (V : List Cel) (B : Nat) (e : Ending) (w' : World) : Prop :=
  (mayB V = false ∧ e = .returned (.slice none 0 0)) ∨ (mayB V = true ∧ ∃ (g : Nat) (es : Array Value), e = .returned (.slice (some ⟨g, 0, none⟩) V.length V.length) ∧ B ≤ g ∧ w'.heap[g]? = some (.cells es 3 (0, 0)) ∧ es.size = V.length ∧ ∀ i, i < V.length → es[i]? = some (.int .i64 (endI V i 16)))
set_option maxRecDepth 100000 in
theorem behind_none (a : Option Addr) (cap : Nat) (w : World) :
    Calls Tryz.prog 76 #[.slice a 0 cap] w fun e w' => BRet [] w.heap.size e w' ∧ Below w.heap.size w w' := by
  go_enter Tryz.func76, Tryz.ntmps76
  go_wp2_with fail
  go_ret
  exact ⟨Or.inl ⟨rfl, rfl⟩, (Below.refl _ _).alloc (Nat.le_refl _) _⟩
set_option maxRecDepth 100000 in
theorem behind_long (n b off cap : Nat) (hn : 2048 < n) (hl : n ≤ 100000) (w : World) :
    Calls Tryz.prog 76 #[.slice (some ⟨b, off, none⟩) n cap] w fun e w' => e = .returned (.slice none 0 0) ∧ Below w.heap.size w w' := by
  have h0 : ((n : Int) == 0) = false := by rw [beq_eq_false_iff_ne]; omega
  go_enter Tryz.func76, Tryz.ntmps76
  go_wp2_with fail
  go_ret
  exact ⟨rfl, (Below.refl _ _).alloc (Nat.le_refl _) _⟩
set_option maxRecDepth 100000 in
theorem behind_named (n b off cap : Nat) (hn0 : 0 < n) (hn : n ≤ 2048) (x : ByteArray) (h1 : ¬ x.toList = []) (h2 : x.toList.isEmpty = false) (w : World) (c1 : w.cell? ⟨b, off + 1, none⟩ = some (.string x)) :
    Calls Tryz.prog 76 #[.slice (some ⟨b, off, none⟩) n cap] w fun e w' => e = .returned (.slice none 0 0) ∧ Below w.heap.size w w' := by
  have h0 : ((n : Int) == 0) = false := by rw [beq_eq_false_iff_ne]; omega
  have hlt := lt_of_cell c1
  go_enter Tryz.func76, Tryz.ntmps76
  go_wp2_with fail
  go_ret
  exact ⟨rfl, (Below.refl _ _).alloc (Nat.le_refl _) _⟩
set_option maxRecDepth 100000 in
theorem behind_in (V : List Cel) (b off cap : Nat) (hn0 : 0 < V.length) (hn : V.length ≤ 2048) (x : ByteArray) (h1 : x.toList = []) (h2 : x.toList.isEmpty = true) (w : World) (c1 : w.cell? ⟨b, off + 1, none⟩ = some (.string x))
    (hrow : CelRow b off V w) (hs : SmallV V) (hE : EnvU w) (r : Int) (hr : endI V 0 16 = r) :
    Calls Tryz.prog 76 #[.slice (some ⟨b, off, none⟩) V.length cap] w fun e w' => BIn V r w.heap.size e w' ∧ Below w.heap.size w w' := by
  have h0 : ((V.length : Int) == 0) = false := by rw [beq_eq_false_iff_ne]; omega
  have hlt := lt_of_cell c1
  have HROW := Lib.hid hrow
  have HS := Lib.hid hs
  have HE := Lib.hid hE
  have HR := Lib.hid hr
  have HK := Lib.hid (fun w => kinds_any w)
  have hnew : Hid (∀ (w : World) O, (w.alloc O).heap[w.heap.size]? = some O) := Lib.hid heap_alloc_new
  obtain ⟨i0, hi, hz0, hz1, hz2⟩ := info_parts int_info
  have HI := Lib.hid hi
  have HZ0 := Lib.hid hz0
  have HZ1 := Lib.hid hz1
  have HZ2 := Lib.hid hz2
  clear hrow hs hE hr hi hz0 hz1 hz2
  go_enter Tryz.func76, Tryz.ntmps76
  go_wp2_with fail
  refine (HK.out _).mono ?_; rintro e w1 ⟨rfl, hb⟩
  have hv1 : w1.heap[w.heap.size]? = some (.cells #[.slice (some ⟨b, off, none⟩) V.length cap] 45 (0, 0)) := (hb.block _ (by simp)).trans (hnew.out w _)
  have hb1 : Below w.heap.size w w1 := ((Below.refl _ _).alloc (Nat.le_refl _) _).trans (hb.mono (by simp))
  have HV1 := Lib.hid hv1
  have HB1 := Lib.hid hb1
  have hz1 : w.heap.size + 1 ≤ w1.heap.size := by have := hb.size; simpa using this
  clear hb hv1 hb1
  have hmf : ∀ (fn : Fn) (first cp : Array Value) (w : World), (Instr.makeFunc fn first cp).run Tryz.prog w = .ok (.func fn first cp) w := fun _ _ _ _ => rfl
  go_wp2_with (first
    | (refine wpList_store_row rfl 124 _ _ rfl w1.heap.size kindsA rfl rfl 124 #[.nilFunc, .nilFunc, .bool false, .nilFunc, .nilFunc, .bool false, .nilFunc, .nilFunc, .bool false, .nilFunc, .nilFunc, .bool false, .nilFunc, .nilFunc, .bool false, .nilFunc, .nilFunc, .bool false, .nilFunc, .nilFunc, .bool false, .nilFunc, .nilFunc, .bool false] (hnew.out _ _) (by kernel_rfl) rfl kindsA_one ?_; obtain ⟨w2, hw2, hA2, hB2, hZ2⟩ := row_laid w1 #[.nilFunc, .nilFunc, .bool false, .nilFunc, .nilFunc, .bool false, .nilFunc, .nilFunc, .bool false, .nilFunc, .nilFunc, .bool false, .nilFunc, .nilFunc, .bool false, .nilFunc, .nilFunc, .bool false, .nilFunc, .nilFunc, .bool false, .nilFunc, .nilFunc, .bool false] kindsA 124; rw [hw2]; clear hw2; have HA2 := Lib.hid hA2; have HB2 := Lib.hid hB2; have HZ2' := Lib.hid hZ2; have HV2 := Lib.hid ((hB2.block _ (heap_lt HV1.out)).trans HV1.out); have v2 : w2.cell? ⟨w.heap.size, 0, none⟩ = some (.slice (some ⟨b, off, none⟩) V.length cap) := (by rw [Lib.cell_of_heap HV2.out]; rfl); clear hA2 hB2 hZ2)
    | (at_make; refine wpList_make_full _ rfl _ _ 116 rfl w.heap.size 3 i0 (.int .i64 0) 1 Tryz.underlying116 HI.out HZ0.out HZ1.out .i64 .i64 _ _ V.length rfl rfl rfl rfl (by rw [HZ2.out]; omega) (by unfold maxLen; omega) (by rw [HZ2'.out]; omega) ?_; intro w3 hown3 hgrow3; have HO3 := Lib.hid hown3; have HG3 := Lib.hid hgrow3; clear hown3 hgrow3 v2))
  obtain ⟨cur, hcur, hcs⟩ := made_row HO3.out hn0
  have hz2 := HZ2'.out
  have hz3 : w2.heap.size + 1 ≤ w3.heap.size := heap_lt hcur
  have b1 := HB1.out
  have b2 : Below w.heap.size w w2 := HB1.out.trans (HB2.out.mono (by omega))
  have b3 : Below w.heap.size w w3 := b2.grown HG3.out b2.size (by intro k hk; cases hk)
  obtain ⟨w4, hw4⟩ : ∃ w4, ((w3.alloc (.cells #[.slice (some ⟨w2.heap.size, 0, none⟩) V.length V.length] 116)).alloc (.cells #[.func (.func 83) #[] #[.pointer (some ⟨w.heap.size, 0, none⟩), .pointer (some ⟨w1.heap.size, 0, none⟩), .pointer (some ⟨w3.heap.size + 1, 0, none⟩), .pointer (some ⟨w3.heap.size, 0, none⟩)]] 126)) = w4 := ⟨_, rfl⟩
  have b4 : Below w3.heap.size w3 w4 := by rw [← hw4]; exact ((Below.refl _ _).alloc (Nat.le_refl _) _).alloc (by simp) _
  have g3 : ∀ (i : Nat) (O : Obj), w2.heap[i]? = some O → w4.heap[i]? = some O := fun i O h => by
    have h' : w3.heap[i]? = some O := (HG3.out.block i (heap_lt h) (by intro e; cases e)).trans h
    exact (b4.block i (heap_lt h')).trans h'
  have HBH : Hid (∃ es, BH w V b off cap w.heap.size w1.heap.size (w3.heap.size + 1) w3.heap.size w2.heap.size es w4) := Lib.hid ⟨cur, {
    hv := g3 _ _ HV2.out
    ha := g3 _ _ HA2.out
    hw := by rw [← hw4]; exact heap_new _ _ _ (by simp)
    he := by rw [← hw4]; exact heap_old (heap_new _ _ _ rfl)
    hg := (b4.block _ (heap_lt hcur)).trans hcur
    size := hcs
    bel := b3.trans (b4.mono b3.size)
    lv := Nat.le_refl _
    la := by omega
    lw := by omega
    le := by omega
    lg := by omega
    nv := by omega
    na := by omega
    nw := by omega
    ne := by omega }⟩
  have q0 : w4.cell? ⟨w3.heap.size + 1, 0, none⟩ = some (.func (.func 83) #[] #[.pointer (some ⟨w.heap.size, 0, none⟩), .pointer (some ⟨w1.heap.size, 0, none⟩), .pointer (some ⟨w3.heap.size + 1, 0, none⟩), .pointer (some ⟨w3.heap.size, 0, none⟩)]) := by obtain ⟨es, h⟩ := HBH.out; rw [Lib.cell_of_heap h.hw]; rfl
  have q1 : w4.cell? ⟨w.heap.size, 0, none⟩ = some (.slice (some ⟨b, off, none⟩) V.length cap) := by obtain ⟨es, h⟩ := HBH.out; rw [Lib.cell_of_heap h.hv]; rfl
  have q0' : w4.drew.cell? ⟨w3.heap.size + 1, 0, none⟩ = _ := q0
  have q1' : w4.drew.cell? ⟨w.heap.size, 0, none⟩ = _ := q1
  have HBHd : Hid (∃ es, BH w V b off cap w.heap.size w1.heap.size (w3.heap.size + 1) w3.heap.size w2.heap.size es w4.drew) := Lib.hid (by obtain ⟨es, h⟩ := HBH.out; exact ⟨es, h.below ⟨rfl, rfl, rfl, Nat.le_refl _, fun _ _ => rfl⟩⟩)
  have HS0 := Lib.hid (And.intro q0' (And.intro q1' HBHd))
  have HCALL : Hid (∀ W : World, (W.cell? ⟨w3.heap.size + 1, 0, none⟩ = some (.func (.func 83) #[] #[.pointer (some ⟨w.heap.size, 0, none⟩), .pointer (some ⟨w1.heap.size, 0, none⟩), .pointer (some ⟨w3.heap.size + 1, 0, none⟩), .pointer (some ⟨w3.heap.size, 0, none⟩)]) ∧ W.cell? ⟨w.heap.size, 0, none⟩ = some (.slice (some ⟨b, off, none⟩) V.length cap) ∧ Hid (∃ es, BH w V b off cap w.heap.size w1.heap.size (w3.heap.size + 1) w3.heap.size w2.heap.size es W)) →
      Calls Tryz.prog 83 #[.int .i64 0, .int .i64 16, .pointer (some ⟨w.heap.size, 0, none⟩), .pointer (some ⟨w1.heap.size, 0, none⟩), .pointer (some ⟨w3.heap.size + 1, 0, none⟩), .pointer (some ⟨w3.heap.size, 0, none⟩)] W fun e w' => e = .returned (.int .i64 r) ∧ BTop V w b off cap w.heap.size w1.heap.size (w3.heap.size + 1) w3.heap.size w2.heap.size W w') := Lib.hid (by
    intro W hW
    obtain ⟨es, hB⟩ := hW.2.2.out
    have := behind_walk w V b off cap _ _ _ _ _ HROW.out hlt HS.out HE.out 16 (by omega) W es 0 hn0 hB
    refine this.mono ?_
    rintro e w' ⟨h1, h2, es', h3, h4, h5⟩
    rw [HR.out] at h1
    refine ⟨h1, h2, es', hB.grown h2 h3 h4, fun hv i hi => ?_⟩
    exact (h5 _ (by rw [List.drop_zero]; exact hv)).2 i (Nat.zero_le _) (by omega))
  clear q0 q1 q0' q1' HBHd hcur hcs b1 b2 b3 b4 g3 hmf
  rw [hw4]
  clear hw4
  go_region_held3 (fun W => W.cell? ⟨w3.heap.size + 1, 0, none⟩ = some (.func (.func 83) #[] #[.pointer (some ⟨w.heap.size, 0, none⟩), .pointer (some ⟨w1.heap.size, 0, none⟩), .pointer (some ⟨w3.heap.size + 1, 0, none⟩), .pointer (some ⟨w3.heap.size, 0, none⟩)]) ∧ W.cell? ⟨w.heap.size, 0, none⟩ = some (.slice (some ⟨b, off, none⟩) V.length cap) ∧ Hid (∃ es, BH w V b off cap w.heap.size w1.heap.size (w3.heap.size + 1) w3.heap.size w2.heap.size es W))
    (first | assumption | exact HS0.out | exact keepT (by assumption) (by omega) (by omega) (by assumption))
    (first | ((with_reducible refine (HCALL.out _ (by assumption)).mono ?_); rintro e w5 ⟨rfl, hb⟩))
  clear hz2 hz3
  obtain ⟨hg5, es, hB5, hfill⟩ := hb
  have e0 : w5.cell? ⟨w3.heap.size, 0, none⟩ = some (.slice (some ⟨w2.heap.size, 0, none⟩) V.length V.length) := by rw [Lib.cell_of_heap hB5.he]; rfl
  have HF := Lib.hid hfill
  have HB5 := Lib.hid hB5
  have HZ := HZ2'.out
  clear hfill hB5 hg5
  by_cases hrv : r = (V.length : Int)
  · have hne : (r != (V.length : Int)) = false := by rw [bne_eq_false_iff_eq]; exact hrv
    have hval : valN 16 V = some V.length := by
      have h := HR.out
      rw [hrv] at h
      unfold endI at h
      rw [List.drop_zero] at h
      cases hv : valN 16 V with
      | none => rw [hv] at h; simp at h
      | some n =>
        rw [hv] at h
        dsimp only at h
        have : n = V.length := by omega
        rw [this]
    have HPOST : Hid (BIn V r w.heap.size (.returned (.slice (some ⟨w2.heap.size, 0, none⟩) V.length V.length)) w5 ∧ Below w.heap.size w w5) := Lib.hid (by
      unfold BIn
      rw [if_pos hrv]
      exact ⟨⟨_, es, rfl, HB5.out.lg, HB5.out.hg, HB5.out.size, HF.out hval⟩, HB5.out.bel⟩)
    clear hrv hval HZ
    go_wp2_with fail
    go_ret
    exact HPOST.out
  · have hne : (r != (V.length : Int)) = true := by rw [bne_iff_ne]; exact hrv
    have HPOST : Hid (BIn V r w.heap.size (.returned (.slice none 0 0)) w5 ∧ Below w.heap.size w w5) := Lib.hid (by
      unfold BIn
      rw [if_neg hrv]
      exact ⟨rfl, HB5.out.bel⟩)
    clear hrv HZ
    go_wp2_with fail
    go_ret
    exact HPOST.out
theorem behind_any (V : List Cel) (v : Value) (w : World) (hv : CelSl v V w) (hs : SmallV V) (hE : EnvU w) :
    Calls Tryz.prog 76 #[v] w fun e w' => BRet V w.heap.size e w' ∧ Below w.heap.size w w' := by
  rcases hv with ⟨a, c, rfl, rfl, _⟩ | ⟨b, off, cap, rfl, hrow, hpos⟩
  · exact behind_none a c w
  · by_cases hn : V.length ≤ 2048
    · obtain ⟨_, c1, _⟩ := hrow 0 hpos
      rw [Nat.zero_mul, Nat.add_zero] at c1
      have hhead : (V.headD ⟨0, [0], [], 0, 0⟩).name = V[0].name := by
        cases V with
        | nil => simp at hpos
        | cons c r => rfl
      have hxl : (⟨V[0].name.toArray⟩ : ByteArray).data.toList = V[0].name := by simp
      rcases empty_z ⟨V[0].name.toArray⟩ with ⟨z0, z1, z2, z3⟩ | ⟨z0, z1, z2, z3⟩
      · refine (behind_named V.length b off cap hpos hn _ z1 z2 w c1).mono ?_
        rintro e w' ⟨rfl, hb⟩
        refine ⟨Or.inl ⟨?_, rfl⟩, hb⟩
        unfold mayB
        rw [hhead]
        have : V[0].name.isEmpty = false := by rw [← hxl, ← ByteArray.toList_eq]; exact z2
        rw [this]; simp
      · refine (behind_in V b off cap hpos hn _ z1 z2 w c1 hrow hs hE _ rfl).mono ?_
        rintro e w' ⟨h, hb⟩
        refine ⟨?_, hb⟩
        have hne : V[0].name.isEmpty = true := by rw [← hxl, ← ByteArray.toList_eq]; exact z2
        have hmay : mayB V = (valN 16 V == some V.length) := by
          unfold mayB
          rw [hhead, hne, decide_eq_true hpos, decide_eq_true hn]; simp
        unfold BIn at h
        by_cases hr : endI V 0 16 = (V.length : Int)
        · rw [if_pos hr] at h
          refine Or.inr ⟨?_, ?_⟩
          · rw [hmay]
            unfold endI at hr
            rw [List.drop_zero] at hr
            cases hv : valN 16 V with
            | none => rw [hv] at hr; simp at hr
            | some n =>
              rw [hv] at hr
              dsimp only at hr
              rw [beq_iff_eq]
              have : n = V.length := by omega
              rw [this]
          · obtain ⟨g, es, h1, h2, h3, h4, h5⟩ := h
            exact ⟨g, es, h1, h2, h3, h4, h5⟩
        · rw [if_neg hr] at h
          refine Or.inl ⟨?_, h⟩
          rw [hmay, beq_eq_false_iff_ne]
          intro e
          apply hr
          unfold endI
          rw [List.drop_zero, e]
          simp
    · refine (behind_long V.length b off cap (by omega) hs.1 w).mono ?_
      rintro e w' ⟨rfl, hb⟩
      refine ⟨Or.inl ⟨?_, rfl⟩, hb⟩
      unfold mayB
      rw [decide_eq_false hn]; simp
end Go.Proofs.YtbejhdhhkpllfaaGreatDoor
namespace Go.Proofs.YtbejhdhhkpllfaaGreatDoor
open Go.RowKit
set_option maxRecDepth 100000 in
theorem ccheck_any (V : List Cel) (v : Value) (w : World) (hv : CelSl v V w) (hs : SmallV V) (hE : EnvU w) :
    Calls Tryz.prog 62 #[v] w fun e w' => e = .returned (.int .i64 (if mayB V then 0 else 8)) ∧ Below w.heap.size w w' := by
  have H := Lib.hid (behind_any V v w hv hs hE)
  have q := fun (w : World) (a : Option Addr) (n c : Nat) => Lib.run_eql_slice_nil w 116 3 a n c 0 0 Tryz.underlying116
  obtain ⟨r, hr⟩ : ∃ r : Int, (if mayB V then (0 : Int) else 8) = r := ⟨_, rfl⟩
  have HR := Lib.hid hr
  rw [hr]
  clear hv hE hs hr
  go_enter Tryz.func62, Tryz.ntmps62
  go_wp2_with fail
  refine H.out.mono ?_; rintro e w1 ⟨h, hb⟩
  rcases h with ⟨hm, rfl⟩ | ⟨hm, g, es, rfl, _⟩
  all_goals
    have HM := Lib.hid hm
    clear hm
    go_wp2_with fail
    go_ret
    exact ⟨ret_i (by rw [← HR.out, HM.out]; rfl), hb⟩
/-- The first place of one that a predicate holds of; -1. -/
def idxI (p : Cel → Bool) : List Cel → Nat → Int
  | [], _ => -1
  | c :: r, i => if p c then (i : Int) else idxI p r (i + 1)
theorem idxI_sign (p : Cel → Bool) : ∀ (V : List Cel) (i : Nat), decide (0 ≤ idxI p V i) = V.any p
  | [], i => rfl
  | c :: r, i => by
    rw [idxI, List.any_cons]
    cases p c with
    | true => simp
    | false => simpa using idxI_sign p r (i + 1)
set_option maxRecDepth 100000 in
theorem cindex_row (g : Nat) (lb : Array Value) (eg : ∀ args w, (callFunc g args).run Tryz.prog w = .ok (.enter g args) w) (p : Cel → Bool) (V : List Cel) (b off cap : Nat) (w : World) (hrow : CelRow b off V w) (hl : V.length ≤ 100000)
    (H : Hid (∀ (W : World) (k : Nat) (hk : k < V.length), Below w.heap.size w W → Calls Tryz.prog g (#[.agg (celCells V[k])] ++ lb) W fun e w' => e = .returned (.bool (p V[k])) ∧ Below W.heap.size W w')) :
    Calls Tryz.prog 64 #[.slice (some ⟨b, off, none⟩) V.length cap, .func (.func g) #[] lb] w fun e w' => e = .returned (.int .i64 (idxI p V 0)) ∧ Below w.heap.size w w' := by
  have HROW := Lib.hid hrow
  obtain ⟨r, hr⟩ : ∃ r, idxI p V 0 = r := ⟨_, rfl⟩
  have HR : Hid (idxI p (V.drop 0) 0 = r) := Lib.hid hr
  rw [hr]
  clear hr hrow
  go_enter Tryz.func64, Tryz.ntmps64
  go_wp2_with fail
  go_loopw [8] (fun i wr => ∃ k : Nat, k ≤ V.length ∧ i = .int .i64 k ∧ Hid (idxI p (V.drop k) k = r) ∧ Hid (Below w.heap.size w wr)) (fun i wr => V.length - (intOf i).toNat)
  case atStart => exact ⟨0, Nat.zero_le _, rfl, HR, Lib.hid (Below.refl _ _)⟩
  case round =>
    rename World => wr
    obtain ⟨k, hk, rfl, HS, HB⟩ := hrel
    by_cases hlt : k < V.length
    · obtain ⟨a0, a1, a2, a3, a4⟩ := (HROW.out.below' HB.out) k hlt
      have HC := Lib.hid (H.out wr k hlt HB.out)
      have hstep := HS.out
      rw [List.drop_eq_getElem_cons hlt, idxI] at hstep
      have hz := HB.out.size
      unfold celCells at HC
      generalize p V[k] = pk at *
      generalize (V[k].kind.toNat : Int) = ka at *
      generalize V[k].num = nu at *
      generalize V[k].many = ma at *
      generalize (⟨V[k].name.toArray⟩ : ByteArray) = x at *
      generalize (⟨V[k].text.toArray⟩ : ByteArray) = y at *
      cases pk with
      | true =>
        rw [if_pos rfl] at hstep
        have HF := Lib.hid hstep
        clear hstep HS
        go_wp2_with fail
        refine HC.out.mono ?_; rintro e w1 ⟨rfl, hb⟩
        have HB1 := Lib.hid (HB.out.trans (hb.mono hz))
        clear hb
        go_wp2_with fail
        go_ret
        exact ⟨ret_i HF.out, HB1.out⟩
      | false =>
        rw [if_neg Bool.false_ne_true] at hstep
        have HF := Lib.hid hstep
        clear hstep HS
        go_wp2_with fail
        refine HC.out.mono ?_; rintro e w1 ⟨rfl, hb⟩
        have HB1 := Lib.hid (HB.out.trans (hb.mono hz))
        clear hb
        go_wp2_with fail
        go_roundw
        case rel => exact ⟨k + 1, by omega, by go_num, HF, HB1⟩
        case measure => simp [intOf]; omega
    · have HF : Hid (-1 = r) := Lib.hid (by rw [← HS.out, List.drop_of_length_le (by omega)]; rfl)
      clear HS
      go_wp2_with fail
      go_ret
      exact ⟨ret_i HF.out, HB.out⟩
set_option maxRecDepth 100000 in
theorem cindex_none (g : Nat) (lb : Array Value) (p : Cel → Bool) (a : Option Addr) (cap : Nat) (w : World) :
    Calls Tryz.prog 64 #[.slice a 0 cap, .func (.func g) #[] lb] w fun e w' => e = .returned (.int .i64 (idxI p [] 0)) ∧ Below w.heap.size w w' := by
  go_enter Tryz.func64, Tryz.ntmps64
  go_wp2_with fail
  refine wp_loop_rounds 1 ?_; rw [rounds_succ]
  go_wp2_with fail
  go_ret
  exact ⟨rfl, Below.refl _ _⟩
set_option maxRecDepth 100000 in
theorem ccontains_any (g : Nat) (lb : Array Value) (eg : ∀ args w, (callFunc g args).run Tryz.prog w = .ok (.enter g args) w) (p : Cel → Bool) (V : List Cel) (v : Value) (w : World) (hv : CelSl v V w) (hl : V.length ≤ 100000)
    (H : Hid (∀ (W : World) (k : Nat) (hk : k < V.length), Below w.heap.size w W → Calls Tryz.prog g (#[.agg (celCells V[k])] ++ lb) W fun e w' => e = .returned (.bool (p V[k])) ∧ Below W.heap.size W w')) :
    Calls Tryz.prog 42 #[v, .func (.func g) #[] lb] w fun e w' => e = .returned (.bool (V.any p)) ∧ Below w.heap.size w w' := by
  have HI : Hid (Calls Tryz.prog 64 #[v, .func (.func g) #[] lb] w fun e w' => e = .returned (.int .i64 (idxI p V 0)) ∧ Below w.heap.size w w') := Lib.hid (by
    rcases hv with ⟨a, c, rfl, rfl, _⟩ | ⟨b, off, cap, rfl, hrow, hpos⟩
    · exact cindex_none g lb p a c w
    · exact cindex_row g lb eg p V b off cap w hrow hl H)
  have hsg := idxI_sign p V 0
  generalize idxI p V 0 = i at *
  rw [← hsg]
  clear H hv hsg eg
  go_enter Tryz.func42, Tryz.ntmps42
  go_wp2_with fail
  refine HI.out.mono ?_; rintro e w1 ⟨rfl, hb⟩
  go_wp2_with fail
  go_ret
  exact ⟨rfl, hb⟩
def evC (c : Cel) : Bool := c.kind == 4 || c.kind == 5
theorem kind_eq (c : Cel) (k : UInt8) : (c.kind == k) = ((c.kind.toNat : Int) == (k.toNat : Int)) := by
  rw [Bool.eq_iff_iff, beq_iff_eq, beq_iff_eq]
  exact ⟨fun h => by rw [h], fun h => UInt8.toNat_inj.1 (by omega)⟩
set_option maxRecDepth 100000 in
theorem pclo_any (c : Cel) (w : World) :
    Calls Tryz.prog 63 #[.agg (celCells c)] w fun e w' => e = .returned (.bool (evC c)) ∧ Below w.heap.size w w' := by
  have hr : evC c = ((c.kind.toNat : Int) == 4 || (c.kind.toNat : Int) == 5) := by unfold evC; rw [kind_eq, kind_eq]; rfl
  rw [hr]
  unfold celCells
  clear hr
  generalize (c.kind.toNat : Int) = k at *
  generalize (⟨c.name.toArray⟩ : ByteArray) = x at *
  generalize (⟨c.text.toArray⟩ : ByteArray) = y at *
  generalize c.num = nu at *
  generalize c.many = ma at *
  cases h4 : (k == 4) with
  | true =>
    go_enter Tryz.func63, Tryz.ntmps63
    go_wp2_with fail
    go_ret
    exact ⟨rfl, (Below.refl _ _).alloc (Nat.le_refl _) _⟩
  | false =>
    go_enter Tryz.func63, Tryz.ntmps63
    go_wp2_with fail
    go_ret
    exact ⟨ret_b (by simp), (Below.refl _ _).alloc (Nat.le_refl _) _⟩
theorem pclo_ent : ∀ args w, (callFunc 63 args).run Tryz.prog w = .ok (.enter 63 args) w := enters_of Tryz.func63 (by kernel_rfl) rfl
theorem plain_any' (V : List Cel) : V.all (fun c => !(c.kind == 4 || c.kind == 5)) = !V.any evC := by
  induction V with
  | nil => rfl
  | cons c r ih =>
    rw [List.all_cons, List.any_cons, ih]
    unfold evC
    cases (c.kind == 4) <;> cases (c.kind == 5) <;> simp
set_option maxRecDepth 100000 in
theorem cplain_any (V : List Cel) (v : Value) (w : World) (hv : CelSl v V w) (hs : SmallV V) (hE : EnvU w) :
    Calls Tryz.prog 41 #[v] w fun e w' => e = .returned (.bool (plainB V)) ∧ Below w.heap.size w w' := by
  have H := Lib.hid (ccheck_any V v w hv hs hE)
  have HC : Hid (∀ W : World, Below w.heap.size w W → Calls Tryz.prog 42 #[v, .func (.func 63) #[] #[]] W fun e w' => e = .returned (.bool (V.any evC)) ∧ Below W.heap.size W w') := Lib.hid fun W hW =>
    ccontains_any _ #[] pclo_ent evC V v W (hv.below hW) hs.1 (Lib.hid fun W' k hk _ => by simpa using pclo_any V[k] W')
  unfold plainB
  rw [plain_any']
  clear hv hs hE
  generalize V.any evC = ev at *
  cases hm : mayB V with
  | false =>
    rw [hm] at H
    clear hm
    go_enter Tryz.func41, Tryz.ntmps41
    go_wp2_with fail
    refine H.out.mono ?_; rintro e w1 ⟨rfl, hb⟩
    go_wp2_with fail
    go_ret
    exact ⟨rfl, hb⟩
  | true =>
    rw [hm] at H
    clear hm
    go_enter Tryz.func41, Tryz.ntmps41
    go_wp2_with fail
    refine H.out.mono ?_; rintro e w1 ⟨rfl, hb⟩
    have HB := Lib.hid hb
    have hz := hb.size
    clear hb
    go_wp2_with fail
    refine (HC.out _ HB.out).mono ?_; rintro e w2 ⟨rfl, hb⟩
    have HB2 := Lib.hid (HB.out.trans (hb.mono hz))
    clear hb
    go_wp2_with fail
    go_ret
    exact ⟨ret_b (by cases ev <;> rfl), HB2.out⟩
end Go.Proofs.YtbejhdhhkpllfaaGreatDoor
namespace Go.Proofs.YtbejhdhhkpllfaaGreatDoor
open Go.RowKit
theorem rbehind_case (V : List Cel) (b off cap : Nat) (hs : SmallV V) (d : Nat) (hd : d ≤ 16) (W : World) (k : Nat) (hk : k < V.length) (hrow : CelRow b off V W)
    (HIH : 0 < d → Hid (∀ (W' : World) (p : Nat), p < V.length → CelRow b off V W' → Calls Tryz.prog 85 #[.slice (some ⟨b, off, none⟩) V.length cap, .int .i64 (p : Int), .int .i64 ((d : Int) - 1)] W' fun e w' => e = .returned (.int .i64 (endI V p (d - 1))) ∧ Below W'.heap.size W' w')) :
    Calls Tryz.prog 85 #[.slice (some ⟨b, off, none⟩) V.length cap, .int .i64 (k : Int), .int .i64 (d : Int)] W fun e w' => e = .returned (.int .i64 (endI V k d)) ∧ Below W.heap.size W w' := by
  obtain ⟨c0, c1, c2, c3, c4⟩ := hrow k hk
  obtain ⟨s1, s2, s3, s4⟩ := hs.2 V[k] (List.getElem_mem _)
  have HO : Hid (∀ w : World, Calls Tryz.prog 94 #[.agg #[.int .u8 (V[k].kind.toNat : Int), .string ⟨V[k].name.toArray⟩, .string ⟨V[k].text.toArray⟩, .int .i64 V[k].num, .int .i64 V[k].many]] w fun e w' => e = .returned (.bool (oneC V[k])) ∧ Below w.heap.size w w') := Lib.hid fun w => rone03_any V[k] s2 w
  have HSM : Hid (∀ c ∈ V, c.name.length ≤ 100000) := Lib.hid fun c hc => (hs.2 c hc).1
  have HTX : Hid (∀ (W' : World) (x : ByteArray), x.size ≤ 100000 → Calls Tryz.prog 95 #[.string x] W' fun e w' => e = .returned (.bool (textB x.data.toList)) ∧ Below W'.heap.size W' w') := Lib.hid fun W' x hx => rtext03_any x hx W'
  have hnest := nest_kind V[k]
  have hval := valN_drop V k d hk
  have hone := one_kind V[k]
  cases ho : oneC V[k] with
  | false =>
    rw [ho] at HO hval
    rw [endI_none hval]
    exact rb_one V b off cap W k d _ _ _ _ _ hk hs.1 hd c0 c1 c2 c3 c4 HO
  | true =>
    rw [ho] at HO hval
    rw [if_pos rfl] at hval
    have ne6 : ∀ j : Nat, V[k].kind.toNat ≠ j → (((V[k].kind.toNat : Int)) != (j : Int)) = true := fun j h => by rw [bne_iff_ne]; omega
    by_cases h67 : V[k].kind.toNat = 6 ∨ V[k].kind.toNat = 7
    · have hcn : cnest V[k].kind.toNat = true := by
        unfold cnest
        rw [Bool.or_eq_true, beq_iff_eq, beq_iff_eq]; exact h67
      rw [hnest, hcn, if_pos rfl] at hval
      have hm : 0 ≤ V[k].many := by
        rw [ho, hcn, if_pos rfl] at hone
        have := hone.symm
        simp only [Bool.and_eq_true, decide_eq_true_eq] at this
        exact this.2.2
      obtain ⟨m, hm2⟩ := Int.eq_ofNat_of_zero_le hm
      have hmt : V[k].many.toNat = m := by rw [hm2]; rfl
      have hmx : (m : Int) ≤ 9223372036854775807 := by rw [← hm2]; exact s4.2
      by_cases hd0 : d = 0
      · have hn : valN d (V.drop k) = none := by rw [hval]; subst hd0; rfl
        have hdb : ((d : Int) == 0) = true := by rw [hd0]; rfl
        rw [endI_none hn]
        rcases h67 with h | h
        · exact rb_deep6 V b off cap W k d _ _ _ _ _ hk hs.1 hd c0 c1 c2 c3 c4 HO (by rw [h]; rfl) (by rw [h]; rfl) (by rw [h]; rfl) (by rw [h]; rfl) hdb
        · exact rb_deep7 V b off cap W k d _ _ _ _ _ hk hs.1 hd c0 c1 c2 c3 c4 HO (by rw [h]; rfl) (by rw [h]; rfl) (by rw [h]; rfl) (by rw [h]; rfl) hdb
      · obtain ⟨d', rfl⟩ : ∃ d', d = d' + 1 := ⟨d - 1, by omega⟩
        dsimp only at hval
        rw [hmt] at hval
        rw [hm2] at c4 HO
        rcases h67 with h | h
        · have hk6 : (V[k].kind == 6) = true := beq_iff_eq.2 (UInt8.toNat_inj.1 h)
          rw [hk6] at hval
          exact rb_list V b off cap W k (d' + 1) _ _ _ _ m hk hs.1 hd c0 c1 c2 c3 c4 HO (by rw [h]; rfl) (by rw [h]; rfl) (by rw [h]; rfl) (by rw [h]; rfl) (by omega) hmx (Lib.hid hrow) HSM _ rfl hval HTX (HIH (by omega))
        · have hk6 : (V[k].kind == 6) = false := beq_eq_false_iff_ne.2 fun e => by rw [e] at h; exact absurd h (by decide)
          rw [hk6] at hval
          exact rb_obj V b off cap W k (d' + 1) _ _ _ _ m hk hs.1 hd c0 c1 c2 c3 c4 HO (by rw [h]; rfl) (by rw [h]; rfl) (by rw [h]; rfl) (by rw [h]; rfl) (by omega) hmx (Lib.hid hrow) HSM _ rfl hval HTX (HIH (by omega))
    · have hcn : cnest V[k].kind.toNat = false := by
        unfold cnest
        rw [Bool.or_eq_false_iff, beq_eq_false_iff_ne, beq_eq_false_iff_ne]
        omega
      rw [hnest, hcn] at hval
      rw [endI_some hval]
      exact rb_leaf V b off cap W k d _ _ _ _ _ hk hs.1 hd c0 c1 c2 c3 c4 HO (ne6 6 (by omega)) (ne6 7 (by omega))
theorem rbehind_walk (V : List Cel) (b off cap : Nat) (hs : SmallV V) : ∀ d : Nat, d ≤ 16 → ∀ (W : World) (k : Nat), k < V.length → CelRow b off V W →
    Calls Tryz.prog 85 #[.slice (some ⟨b, off, none⟩) V.length cap, .int .i64 (k : Int), .int .i64 (d : Int)] W fun e w' => e = .returned (.int .i64 (endI V k d)) ∧ Below W.heap.size W w' := by
  intro d
  induction d with
  | zero => intro hd W k hk hrow; exact rbehind_case V b off cap hs 0 hd W k hk hrow (fun h => absurd h (by decide))
  | succ d ih =>
    intro hd W k hk hrow
    refine rbehind_case V b off cap hs (d + 1) hd W k hk hrow (fun _ => Lib.hid fun W' p hp hr => ?_)
    have := ih (by omega) W' p hp hr
    rw [show ((d + 1 : Nat) : Int) - 1 = (d : Int) from by omega, show d + 1 - 1 = d from rfl]
    exact this
set_option maxRecDepth 100000 in
theorem rmay03_none (a : Option Addr) (cap : Nat) (w : World) :
    Calls Tryz.prog 79 #[.slice a 0 cap] w fun e w' => e = .returned (.bool (mayB [])) ∧ Below w.heap.size w w' := by
  go_enter Tryz.func79, Tryz.ntmps79
  go_wp2_with fail
  go_ret
  exact ⟨rfl, Below.refl _ _⟩
set_option maxRecDepth 100000 in
theorem rmay03_long (a : Option Addr) (n cap : Nat) (hn : 2048 < n) (hl : n ≤ 100000) (w : World) :
    Calls Tryz.prog 79 #[.slice a n cap] w fun e w' => e = .returned (.bool false) ∧ Below w.heap.size w w' := by
  go_enter Tryz.func79, Tryz.ntmps79
  go_wp2_with fail
  go_ret
  exact ⟨rfl, Below.refl _ _⟩
set_option maxRecDepth 100000 in
theorem rmay03_named (n b off cap : Nat) (hn0 : 0 < n) (hn : n ≤ 2048) (x : ByteArray) (h1 : ¬ x.toList = []) (h2 : x.toList.isEmpty = false) (w : World) (c1 : w.cell? ⟨b, off + 1, none⟩ = some (.string x)) :
    Calls Tryz.prog 79 #[.slice (some ⟨b, off, none⟩) n cap] w fun e w' => e = .returned (.bool false) ∧ Below w.heap.size w w' := by
  go_enter Tryz.func79, Tryz.ntmps79
  go_wp2_with fail
  go_ret
  exact ⟨rfl, Below.refl _ _⟩
set_option maxRecDepth 100000 in
theorem rmay03_in (n b off cap : Nat) (hn0 : 0 < n) (hn : n ≤ 2048) (x : ByteArray) (h1 : x.toList = []) (h2 : x.toList.isEmpty = true) (w : World) (c1 : w.cell? ⟨b, off + 1, none⟩ = some (.string x)) (r : Int)
    (H : Hid (∀ W, Below w.heap.size w W → Calls Tryz.prog 85 #[.slice (some ⟨b, off, none⟩) n cap, .int .i64 0, .int .i64 16] W fun e w' => e = .returned (.int .i64 r) ∧ Below W.heap.size W w')) :
    Calls Tryz.prog 79 #[.slice (some ⟨b, off, none⟩) n cap] w fun e w' => e = .returned (.bool (r == (n : Int))) ∧ Below w.heap.size w w' := by
  go_enter Tryz.func79, Tryz.ntmps79
  go_wp2_with fail
  refine (H.out _ (Below.refl _ _)).mono ?_; rintro e w1 ⟨rfl, hb⟩
  go_wp2_with fail
  go_ret
  exact ⟨rfl, hb⟩
theorem rmay03_any (V : List Cel) (v : Value) (w : World) (hv : CelSl v V w) (hs : SmallV V) :
    Calls Tryz.prog 79 #[v] w fun e w' => e = .returned (.bool (mayB V)) ∧ Below w.heap.size w w' := by
  rcases hv with ⟨a, c, rfl, rfl, _⟩ | ⟨b, off, cap, rfl, hrow, hpos⟩
  · exact rmay03_none a c w
  · by_cases hn : V.length ≤ 2048
    · obtain ⟨_, c1, _⟩ := hrow 0 hpos
      rw [Nat.zero_mul, Nat.add_zero] at c1
      have hhead : (V.headD ⟨0, [0], [], 0, 0⟩).name = V[0].name := by
        cases V with
        | nil => simp at hpos
        | cons c r => rfl
      have hxl : (⟨V[0].name.toArray⟩ : ByteArray).data.toList = V[0].name := by simp
      rcases empty_z ⟨V[0].name.toArray⟩ with ⟨z0, z1, z2, z3⟩ | ⟨z0, z1, z2, z3⟩
      · have hm : mayB V = false := by
          unfold mayB
          rw [hhead]
          have : V[0].name.isEmpty = false := by rw [← hxl, ← ByteArray.toList_eq]; exact z2
          rw [this]; simp
        rw [hm]
        exact rmay03_named V.length b off cap hpos hn _ z1 z2 w c1
      · have hne : V[0].name.isEmpty = true := by rw [← hxl, ← ByteArray.toList_eq]; exact z2
        have hmay : mayB V = (endI V 0 16 == (V.length : Int)) := by
          unfold mayB endI
          rw [hhead, hne, decide_eq_true hpos, decide_eq_true hn, List.drop_zero]
          cases hv : valN 16 V with
          | none => rw [Bool.eq_iff_iff]; simp
          | some k => rw [Bool.eq_iff_iff]; simp; omega
        rw [hmay]
        exact rmay03_in V.length b off cap hpos hn _ z1 z2 w c1 _ (Lib.hid fun W hW => rbehind_walk V b off cap hs 16 (by omega) W 0 hpos (hrow.below' hW))
    · have hm : mayB V = false := by unfold mayB; rw [decide_eq_false hn]; simp
      rw [hm]
      exact rmay03_long _ V.length cap (by omega) hs.1 w
end Go.Proofs.YtbejhdhhkpllfaaGreatDoor
namespace Go.Proofs.YtbejhdhhkpllfaaGreatDoor
open Go.RowKit
/-- Are cells more than a statement goes through? -/
def greatV (V : List Cel) (most : Nat) : Bool := (V.take most).any (fun c => decide (300 < c.name.length) || decide (3000 < c.text.length)) || decide (most < V.length)
set_option maxRecDepth 100000 in
set_option maxHeartbeats 1000000 in
theorem rgreat03_row (V : List Cel) (most b off cap : Nat) (hl : V.length ≤ 9223372036854775807) (hm : most ≤ 100000) (w : World) (hr : CelRow b off V w) (hsz : ∀ c ∈ V, c.name.length ≤ 9223372036854775807 ∧ c.text.length ≤ 9223372036854775807) :
    Calls Tryz.prog 31 #[.slice (some ⟨b, off, none⟩) V.length cap, .int .i64 (most : Int)] w fun e w' => e = .returned (.bool (greatV V most)) ∧ w = w' := by
  have HT := Lib.hid hr
  have HZ := Lib.hid hsz
  obtain ⟨r, hr2⟩ : ∃ r, greatV V most = r := ⟨_, rfl⟩
  have HR : Hid ((((V.drop 0).take (most - 0)).any (fun c => decide (300 < c.name.length) || decide (3000 < c.text.length)) || decide (most < V.length)) = r) := Lib.hid hr2
  rw [hr2]
  clear hr hr2 hsz
  go_enter Tryz.func31, Tryz.ntmps31
  go_wp2_with fail
  go_loop [5] (fun i => ∃ k : Nat, k ≤ V.length ∧ k ≤ most ∧ i = .int .i64 k ∧ Hid ((((V.drop k).take (most - k)).any (fun c => decide (300 < c.name.length) || decide (3000 < c.text.length)) || decide (most < V.length)) = r)) (fun i => V.length - (intOf i).toNat)
  case atStart => exact ⟨0, Nat.zero_le _, Nat.zero_le _, rfl, HR⟩
  case round =>
    obtain ⟨k, hk, hkm, rfl, HS⟩ := hrel
    by_cases hlt : k < V.length ∧ k < most
    · obtain ⟨hlt, hltm⟩ := hlt
      obtain ⟨_, c1, c2, _⟩ := HT.out k hlt
      obtain ⟨z1, z2⟩ := HZ.out V[k] (List.getElem_mem _)
      have hstep := HS.out
      rw [List.drop_eq_getElem_cons hlt, show most - k = (most - (k + 1)) + 1 from by omega, List.take_succ_cons, List.any_cons] at hstep
      have hx : (⟨V[k].name.toArray⟩ : ByteArray).size = V[k].name.length := by show V[k].name.toArray.size = _; simp
      have hy : (⟨V[k].text.toArray⟩ : ByteArray).size = V[k].text.length := by show V[k].text.toArray.size = _; simp
      rw [← hx] at hstep z1
      rw [← hy] at hstep z2
      clear hx hy
      generalize (⟨V[k].name.toArray⟩ : ByteArray) = x at *
      generalize (⟨V[k].text.toArray⟩ : ByteArray) = y at *
      by_cases hbig : 300 < x.size ∨ 3000 < y.size
      · have HF : Hid (true = r) := Lib.hid (by
          rw [← hstep]
          rcases hbig with h | h <;> simp [h])
        have hbig2 := hbig
        clear hstep HS
        rcases hbig with h | h
        · clear hbig2
          go_wp2_with fail
          go_ret
          exact ⟨ret_b HF.out, rfl⟩
        · clear hbig2
          go_wp2_with fail
          all_goals
            go_ret
            exact ⟨ret_b HF.out, rfl⟩
      · have h1 : x.size ≤ 300 := by omega
        have h2 : y.size ≤ 3000 := by omega
        have e1 : decide (300 < x.size) = false := decide_eq_false (by omega)
        have e2 : decide (3000 < y.size) = false := decide_eq_false (by omega)
        rw [e1, e2, Bool.or_false, Bool.false_or] at hstep
        have HF := Lib.hid hstep
        clear hstep HS hbig
        go_wp2_with fail
        go_round
        case rel => exact ⟨k + 1, by omega, by omega, by go_num, HF⟩
        case measure => simp [intOf]; omega
    · have HF : Hid (decide (most < V.length) = r) := Lib.hid (by
        have := HS.out
        by_cases h : k < V.length
        · rw [show most - k = 0 from by omega, List.take_zero] at this
          simpa using this
        · rw [List.drop_of_length_le (by omega), List.take_nil] at this
          simpa using this)
      clear HS
      by_cases h : k < V.length
      · have h2 : ¬ k < most := by omega
        clear hlt
        go_wp2_with fail
        go_ret
        exact ⟨ret_b HF.out, rfl⟩
      · clear hlt
        go_wp2_with fail
        go_ret
        exact ⟨ret_b HF.out, rfl⟩
set_option maxRecDepth 100000 in
theorem rgreat03_none (a : Option Addr) (cap most : Nat) (hm : most ≤ 100000) (w : World) :
    Calls Tryz.prog 31 #[.slice a 0 cap, .int .i64 (most : Int)] w fun e w' => e = .returned (.bool (greatV [] most)) ∧ w = w' := by
  have hr : Hid (greatV [] most = false) := Lib.hid (by unfold greatV; simp)
  go_enter Tryz.func31, Tryz.ntmps31
  go_wp2_with fail
  refine wp_loop_rounds 1 ?_; rw [rounds_succ]
  go_wp2_with fail
  go_ret
  exact ⟨ret_b hr.out.symm, rfl⟩
theorem rgreat03_any (V : List Cel) (v : Value) (most : Nat) (hl : V.length ≤ maxLen) (hm : most ≤ 100000) (w : World) (hv : CelSl v V w) (hsz : ∀ c ∈ V, c.name.length ≤ maxLen ∧ c.text.length ≤ maxLen) :
    Calls Tryz.prog 31 #[v, .int .i64 (most : Int)] w fun e w' => e = .returned (.bool (greatV V most)) ∧ w = w' := by
  unfold maxLen at *
  rcases hv with ⟨a, c, rfl, rfl, _⟩ | ⟨b, off, cap, rfl, hrow, hpos⟩
  · exact rgreat03_none a c most hm w
  · exact rgreat03_row V most b off cap hl hm w hrow hsz
def eqC (a c : Cel) : Bool := a.kind == c.kind && (a.name == c.name && (a.text == c.text && (a.num == c.num && a.many == c.many)))
def sameV : List Cel → List Cel → Bool
  | [], [] => true
  | a :: r, c :: s => eqC a c && sameV r s
  | _, _ => false
theorem sameV_len : ∀ (L M : List Cel), L.length ≠ M.length → sameV L M = false
  | [], [], h => absurd rfl h
  | [], _ :: _, _ => rfl
  | _ :: _, [], _ => rfl
  | t :: r, u :: s, h => by
    rw [sameV, sameV_len r s (by simpa using h), Bool.and_false]
theorem eqC_iff (a c : Cel) : eqC a c = true ↔ a = c := by
  obtain ⟨k, n, t, i, m⟩ := a
  obtain ⟨k', n', t', i', m'⟩ := c
  unfold eqC
  simp
theorem sameV_iff : ∀ (L M : List Cel), sameV L M = true ↔ L = M
  | [], [] => by simp [sameV]
  | [], _ :: _ => by simp [sameV]
  | _ :: _, [] => by simp [sameV]
  | t :: r, u :: s => by
    rw [sameV, Bool.and_eq_true, eqC_iff, sameV_iff r s]; simp
theorem sameV_drop (L M : List Cel) (k : Nat) (h : k < L.length) (h' : k < M.length) : sameV (L.drop k) (M.drop k) = (eqC L[k] M[k] && sameV (L.drop (k + 1)) (M.drop (k + 1))) := by
  rw [List.drop_eq_getElem_cons h, List.drop_eq_getElem_cons h', sameV]
theorem eqC_no (a c : Cel) (h : ¬ (a.kind.toNat : Int) = (c.kind.toNat : Int) ∨ ¬ a.name = c.name ∨ ¬ a.text = c.text ∨ ¬ a.num = c.num ∨ ¬ a.many = c.many) : eqC a c = false := by
  rw [Bool.eq_false_iff]
  intro e
  have := (eqC_iff a c).1 e
  subst this
  simp at h
set_option maxRecDepth 100000 in
theorem rsame03_len (v1 v2 : Option Addr) (c1 c2 : Nat) (n m : Nat) (hn : n ≤ 100000) (hm : m ≤ 100000) (hne : n ≠ m) (w : World) :
    Calls Tryz.prog 52 #[.slice v1 n c1, .slice v2 m c2] w fun e w' => e = .returned (.bool false) ∧ Below w.heap.size w w' := by
  have h1 : ((n : Int) != (m : Int)) = true := by rw [bne_iff_ne]; omega
  clear hne
  go_enter Tryz.func52, Tryz.ntmps52
  go_wp2_with fail
  go_ret
  exact ⟨rfl, Below.refl _ _⟩
set_option maxRecDepth 100000 in
set_option maxHeartbeats 1000000 in
theorem rsame03_row (L M : List Cel) (b1 o1 c1 b2 o2 c2 : Nat) (hl : L.length ≤ 100000) (hlm : L.length = M.length) (w : World) (h1 : CelRow b1 o1 L w) (h2 : CelRow b2 o2 M w) :
    Calls Tryz.prog 52 #[.slice (some ⟨b1, o1, none⟩) L.length c1, .slice (some ⟨b2, o2, none⟩) L.length c2] w fun e w' => e = .returned (.bool (sameV L M)) ∧ Below w.heap.size w w' := by
  have H1 := Lib.hid h1
  have H2 := Lib.hid h2
  have HM := Lib.hid hlm
  obtain ⟨r, hr⟩ : ∃ r, sameV L M = r := ⟨_, rfl⟩
  have HR : Hid (sameV (L.drop 0) (M.drop 0) = r) := Lib.hid hr
  rw [hr]
  clear hr h1 h2 hlm
  have hnn : ((L.length : Int) != (L.length : Int)) = false := by rw [bne_eq_false_iff_eq]
  have hg : Tryz.prog.eqGuardType Tryz.prog.depth 59 = false := by kernel_rfl
  go_enter Tryz.func52, Tryz.ntmps52
  go_wp2_with fail
  go_loopw [5] (fun i wr => ∃ k : Nat, k ≤ L.length ∧ i = .int .i64 k ∧ Hid (sameV (L.drop k) (M.drop k) = r) ∧ Hid (Below w.heap.size w wr)) (fun i wr => L.length - (intOf i).toNat)
  case atStart => exact ⟨0, Nat.zero_le _, rfl, HR, Lib.hid (Below.refl _ _)⟩
  case round =>
    rename World => wr
    obtain ⟨k, hk, rfl, HS, HB⟩ := hrel
    by_cases hlt : k < L.length
    · have hltm : k < M.length := by rw [← HM.out]; exact hlt
      obtain ⟨a0, a1, a2, a3, a4⟩ := (H1.out.below' HB.out) k hlt
      obtain ⟨d0, d1, d2, d3, d4⟩ := (H2.out.below' HB.out) k hltm
      have hstep := HS.out
      rw [sameV_drop _ _ k hlt hltm] at hstep
      have HNO : Hid ((¬ (L[k].kind.toNat : Int) = (M[k].kind.toNat : Int) ∨ ¬ L[k].name = M[k].name ∨ ¬ L[k].text = M[k].text ∨ ¬ L[k].num = M[k].num ∨ ¬ L[k].many = M[k].many) → false = r) := Lib.hid fun h => by rw [← hstep, eqC_no _ _ h]; rfl
      have HYES : Hid ((L[k].kind.toNat : Int) = (M[k].kind.toNat : Int) → L[k].name = M[k].name → L[k].text = M[k].text → L[k].num = M[k].num → L[k].many = M[k].many → sameV (L.drop (k + 1)) (M.drop (k + 1)) = r) := Lib.hid fun h1 h2 h3 h4 h5 => by
        have : eqC L[k] M[k] = true := by
          unfold eqC
          rw [beq_iff_eq.2 (UInt8.toNat_inj.1 (by omega)), beq_iff_eq.2 h2, beq_iff_eq.2 h3, beq_iff_eq.2 h4, beq_iff_eq.2 h5]; rfl
        rw [← hstep, this, Bool.true_and]
      have hx1 : (⟨L[k].name.toArray⟩ : ByteArray).toList = L[k].name := by rw [ByteArray.toList_eq]
      have hx2 : (⟨M[k].name.toArray⟩ : ByteArray).toList = M[k].name := by rw [ByteArray.toList_eq]
      have hy1 : (⟨L[k].text.toArray⟩ : ByteArray).toList = L[k].text := by rw [ByteArray.toList_eq]
      have hy2 : (⟨M[k].text.toArray⟩ : ByteArray).toList = M[k].text := by rw [ByteArray.toList_eq]
      rw [← hx1, ← hx2, ← hy1, ← hy2] at HNO HYES
      clear hstep hx1 hx2 hy1 hy2
      generalize (L[k].kind.toNat : Int) = ka at *
      generalize (M[k].kind.toNat : Int) = kb at *
      generalize L[k].num = na at *
      generalize M[k].num = nb at *
      generalize L[k].many = ma at *
      generalize M[k].many = mb at *
      generalize (⟨L[k].name.toArray⟩ : ByteArray) = x at *
      generalize (⟨M[k].name.toArray⟩ : ByteArray) = x' at *
      generalize (⟨L[k].text.toArray⟩ : ByteArray) = y at *
      generalize (⟨M[k].text.toArray⟩ : ByteArray) = y' at *
      by_cases e0 : ka = kb
      · by_cases e1 : x.toList = x'.toList
        · by_cases e2 : y.toList = y'.toList
          · by_cases e3 : na = nb
            · by_cases e4 : ma = mb
              · have HEQ := HYES.out e0 e1 e2 e3 e4
                subst e0 e3 e4
                clear HYES HNO
                have HF := Lib.hid HEQ
                clear HEQ HS
                go_wp2_with fail
                go_quiet (fail)
                go_wp2_with fail
                go_roundw
                case rel => exact ⟨k + 1, by omega, by go_num, HF, Lib.hid (below_dN _ HB.out)⟩
                case measure => simp [intOf]; omega
              · have HN := Lib.hid (HNO.out (Or.inr (Or.inr (Or.inr (Or.inr e4)))))
                subst e0 e3
                clear HYES HNO
                clear HS
                go_wp2_with fail
                go_quiet (fail)
                go_wp2_with fail
                go_ret
                exact ⟨ret_b HN.out, below_dN _ HB.out⟩
            · have HN := Lib.hid (HNO.out (Or.inr (Or.inr (Or.inr (Or.inl e3)))))
              subst e0
              clear HYES HNO
              clear HS
              go_wp2_with fail
              go_quiet (fail)
              go_wp2_with fail
              go_ret
              exact ⟨ret_b HN.out, below_dN _ HB.out⟩
          · have HN := Lib.hid (HNO.out (Or.inr (Or.inr (Or.inl e2))))
            subst e0
            clear HYES HNO
            clear HS
            go_wp2_with fail
            go_quiet (fail)
            go_wp2_with fail
            go_ret
            exact ⟨ret_b HN.out, below_dN _ HB.out⟩
        · have HN := Lib.hid (HNO.out (Or.inr (Or.inl e1)))
          subst e0
          clear HYES HNO
          clear HS
          go_wp2_with fail
          go_quiet (fail)
          go_wp2_with fail
          go_ret
          exact ⟨ret_b HN.out, below_dN _ HB.out⟩
      · have HN := Lib.hid (HNO.out (Or.inl e0))
        clear HYES HNO
        clear HS
        go_wp2_with fail
        go_quiet (fail)
        go_wp2_with fail
        go_ret
        exact ⟨ret_b HN.out, below_dN _ HB.out⟩
    · have HF : Hid (true = r) := Lib.hid (by
        have hm : M.length = L.length := HM.out.symm
        rw [← HS.out, List.drop_of_length_le (by omega), List.drop_of_length_le (by omega)]; rfl)
      clear HS
      go_wp2_with fail
      go_ret
      exact ⟨ret_b HF.out, HB.out⟩
set_option maxRecDepth 100000 in
theorem rsame03_none (a v : Option Addr) (c1 c2 : Nat) (w : World) :
    Calls Tryz.prog 52 #[.slice a 0 c1, .slice v 0 c2] w fun e w' => e = .returned (.bool true) ∧ Below w.heap.size w w' := by
  go_enter Tryz.func52, Tryz.ntmps52
  go_wp2_with fail
  refine wp_loop_rounds 1 ?_; rw [rounds_succ]
  go_wp2_with fail
  go_ret
  exact ⟨rfl, Below.refl _ _⟩
theorem rsame03_any (L M : List Cel) (u v : Value) (hl : L.length ≤ 100000) (hm : M.length ≤ 100000) (w : World) (h1 : CelSl u L w) (h2 : CelSl v M w) :
    Calls Tryz.prog 52 #[u, v] w fun e w' => e = .returned (.bool (sameV L M)) ∧ Below w.heap.size w w' := by
  by_cases hlm : L.length = M.length
  · rcases h1 with ⟨a1, c1, rfl, rfl, _⟩ | ⟨b1, o1, c1, rfl, h1, p1⟩
    · obtain rfl : M = [] := List.eq_nil_of_length_eq_zero hlm.symm
      rcases h2 with ⟨a2, c2, rfl, _, _⟩ | ⟨b2, o2, c2, rfl, h2, p2⟩
      · exact rsame03_none a1 a2 c1 c2 w
      · exact rsame03_none a1 _ c1 c2 w
    · rcases h2 with ⟨a2, c2, rfl, rfl, _⟩ | ⟨b2, o2, c2, rfl, h2, p2⟩
      · obtain rfl : L = [] := List.eq_nil_of_length_eq_zero hlm
        exact rsame03_none _ a2 c1 c2 w
      · rw [← hlm]
        exact rsame03_row L M b1 o1 c1 b2 o2 c2 hl hlm w h1 h2
  · rw [sameV_len _ _ hlm]
    rcases h1 with ⟨a1, c1, rfl, rfl, _⟩ | ⟨b1, o1, c1, rfl, h1, p1⟩
    · rcases h2 with ⟨a2, c2, rfl, rfl, _⟩ | ⟨b2, o2, c2, rfl, h2, p2⟩
      · exact absurd rfl hlm
      · exact rsame03_len a1 _ _ _ 0 _ (by omega) hm hlm w
    · rcases h2 with ⟨a2, c2, rfl, rfl, _⟩ | ⟨b2, o2, c2, rfl, h2, p2⟩
      · exact rsame03_len _ a2 _ _ _ 0 hl (by omega) hlm w
      · exact rsame03_len _ _ _ _ _ _ hl hm hlm w
end Go.Proofs.YtbejhdhhkpllfaaGreatDoor
namespace Go.Proofs.YtbejhdhhkpllfaaGreatDoor
open Go.RowKit Go.Lib
theorem OwnT.rk {p B : Nat} {v : Value} {L : List Tok} {W W' : World} (h : OwnT B v L W) (hk : RK p W W') (hp : p < B) : OwnT B v L W' := by
  obtain ⟨h1, h2⟩ := h
  refine ⟨h1, ?_⟩
  rcases h2 with h2 | ⟨g, cap, cur, hv, hB, hg, hrest⟩
  · exact Or.inl h2
  · exact Or.inr ⟨g, cap, cur, hv, hB, hk.2 g _ hg (by omega), hrest⟩
theorem OwnT.lessU {B B' : Nat} {v : Value} {L : List Tok} {W : World} (h : OwnT B v L W) (hB : B' ≤ B) : OwnT B' v L W := by
  obtain ⟨h1, h2⟩ := h
  refine ⟨h1, ?_⟩
  rcases h2 with h2 | ⟨g, cap, cur, hv, hg, hrest⟩
  · exact Or.inl h2
  · exact Or.inr ⟨g, cap, cur, hv, by omega, hrest⟩
theorem OwnT.formU {B : Nat} {v : Value} {L : List Tok} {W : World} (h : OwnT B v L W) (hL : 0 < L.length) : ∃ g n cap, v = .slice (some ⟨g, 0, none⟩) n cap ∧ n = L.length ∧ B ≤ g ∧ n ≤ cap := by
  obtain ⟨h1, h2⟩ := h
  rcases h2 with ⟨_, h2⟩ | ⟨g, cap, cur, hv, hB, hg, hn, hrest⟩
  · omega
  · exact ⟨g, _, cap, hv, rfl, hB, hn⟩
/-- The putter holds tokens. -/
def PutS (p : Nat) (v : Value) (L : List Tok) (W : World) : Prop := W.heap[p]? = some (.cells #[v] 97 (0, 0)) ∧ OwnT (p + 1) v L W
theorem PutS.lt {p : Nat} {v : Value} {L : List Tok} {W : World} (h : PutS p v L W) : p < W.heap.size := heap_lt h.1
theorem PutS.below {p : Nat} {v : Value} {L : List Tok} {W W' : World} (h : PutS p v L W) (hb : Below W.heap.size W W') : PutS p v L W' := ⟨(hb.block p h.lt).trans h.1, h.2.below hb⟩
theorem PutS.cell {p : Nat} {v : Value} {L : List Tok} {W : World} (h : PutS p v L W) : W.cell? ⟨p, 0, none⟩ = some v := Lib.cell_of_heap h.1 0
theorem RK.grownN {p : Nat} {W W' : World} (h : W.grownBy W' none) (hp : p ≤ W.heap.size) : RK p W W' := ⟨(Below.refl p W).grown h hp (fun k hk => by cases hk), fun k o hk _ => (h.block k (heap_lt hk) (by intro e; cases e)).trans hk⟩
set_option maxRecDepth 100000 in
theorem wp_appendN {o : Oper} {a : Act} {K : Act → World → Prop} {Q : Exit → Act → World → Prop} {w : World} (s x : Operand)
    (ho : o.op = .call { callee := .builtin .append, args := #[s, x], argTypes := #[77, 77] }) (ao : Option Addr) (n : Nat) (L : List Tok) (hn : n = L.length) (hs : a.eval s = .slice ao n n) (hsl : TokSl (.slice ao n n) L w)
    (g cc : Nat) (t : Tok) (hx : a.eval x = .slice (some ⟨g, 0, none⟩) 1 cc) (hnew : w.heap[g]? = some (.cells #[.int .u8 (t.kind.toNat : Int), .string ⟨t.text.toArray⟩, .int .i64 t.pos] 111 (0, 0))) (hlen : L.length + 1 ≤ 1000000)
    (h : ∀ v' w', OwnT w.heap.size v' (L ++ [t]) w' → w.grownBy w' none → K (a.put o.dst v') w') : o.wp Tryz.prog a w K Q := by
  subst hn
  obtain ⟨i0, hi, hz0, hz1, hz2⟩ := info_parts tok_info
  have hnews : ∀ j u, (tokCells [t])[j]? = some u → w.cell? ((⟨g, 0, none⟩ : Addr).add j) = some u := fun j u hj => by
    rw [addr_addT, Nat.zero_add, Lib.cell_of_heap hnew]
    match j, hj with
    | 0, hj => simpa [tokCells] using hj
    | 1, hj => simpa [tokCells] using hj
    | 2, hj => simpa [tokCells] using hj
    | j + 3, hj => simp [tokCells] at hj
  have fin : (∃ v' w', (Builtin.append_ #[77, 77] o.type #[.slice ao L.length L.length, .slice (some ⟨g, 0, none⟩) 1 cc]).run Tryz.prog w = .ok v' w' ∧ w'.ownsRow w.heap.size 111 3 v' (L.length + 1) (tokCells L ++ tokCells [t]) ∧ w.grownBy w' none) := by
    cases ao with
    | some b =>
      have holds : ∀ j u, (tokCells L)[j]? = some u → w.cell? (b.add j) = some u := by
        rcases hsl with ⟨ua, uc, hu2, hL, hcap⟩ | ⟨b2, off, cap, hu2, hr⟩
        · intro j u hj; rw [hL] at hj; simp [tokCells] at hj
        · injection hu2 with e1 e2 e3
          injection e1 with e1
          subst e1
          exact fun j u hj => by rw [addr_addT]; exact row_cells L b2 off w hr j u hj
      exact run_append_arg_grows (P := Tryz.prog) w 77 o.type 111 i0 (.agg #[.int .u8 0, .string ⟨#[]⟩, .int .i64 0]) 3 32 Tryz.underlying77 hi hz0 hz1 hz2 rfl (by decide) b L.length L.length (tokCells L) (tokCells_len L) holds ⟨g, 0, none⟩ 1 cc (tokCells [t]) rfl hnews (by omega) (by unfold maxLen; omega) (by omega)
    | none =>
      have hL : L = [] := by
        rcases hsl with ⟨ua, uc, hu2, hL, hcap⟩ | ⟨b2, off, cap, hu2, hr⟩
        · exact hL
        · injection hu2 with e1; cases e1
      subst hL
      obtain ⟨v', w', hrun, r1, r2, _⟩ := run_append_own (P := Tryz.prog) w w.heap.size 77 o.type 111 i0 (.agg #[.int .u8 0, .string ⟨#[]⟩, .int .i64 0]) 3 32 Tryz.underlying77 hi hz0 hz1 hz2 rfl (by decide) (.slice none 0 0) 0 [] (World.ownsRow_nil w _ _ 3) ⟨g, 0, none⟩ 1 cc (tokCells [t]) rfl hnews (tokCells_one [t]) (by unfold maxLen; omega) (by omega) (Nat.le_refl _)
      exact ⟨v', w', hrun, r1, r2⟩
  obtain ⟨v', w', hr, h2, h3⟩ := fin
  unfold Oper.wp execOp
  simp only [ho, resolve, invoke, builtin, Sem.run_bind, Sem.run_pure, Result.andThen_ok, List.map_toArray, List.map_cons, List.map_nil, hs, hx, hr]
  refine h v' w' ?_ h3
  unfold OwnT
  rw [List.length_append, tokCells_app]
  exact h2
set_option maxRecDepth 100000 in
set_option maxHeartbeats 8000000 in
theorem put_add_some (p : Nat) (ao : Option Addr) (n cap : Nat) (L : List Tok) (k : UInt8) (s : ByteArray) (lb cl : Nat) (W : World) (hao : ∃ g, ao = some ⟨g, 0, none⟩) (hn : n = L.length) (hcap : n ≤ cap) (h : PutS p (.slice ao n cap) L W) (hl : W.cell? ⟨lb, 0, none⟩ = some (.string s)) (hlb : lb ≠ p) (hL : L.length ≤ 100000) :
    Calls Tryz.prog 58 #[.pointer (some ⟨p, 0, none⟩), .int .u8 (k.toNat : Int), .slice (some ⟨lb, 0, none⟩) 1 cl] W fun x W' => x = .returned (.tuple #[]) ∧ (∃ v', PutS p v' (L ++ [⟨k, s.data.toList, 0⟩]) W') ∧ RK p W W' := by
  obtain ⟨kd, hkd⟩ : ∃ kd : Int, (k.toNat : Int) = kd := ⟨_, rfl⟩
  rw [hkd]
  have HKD := Lib.hid hkd
  obtain ⟨g, rfl⟩ := hao
  have HS := Lib.hid h
  have HN := Lib.hid hn
  have hp := h.lt
  have c0 := h.cell
  have f0 : W.frozen? ⟨p, 0, none⟩ = false := Lib.frozen_of_heap h.1 0
  have hsl : TokSl (.slice (some ⟨g, 0, none⟩) n n) L W := by
    rcases h.2.sl with ⟨ua, uc, hu2, hL2, hc2⟩ | ⟨b2, off, cap2, hu2, hr⟩
    · injection hu2 with e1 e2 e3
      exact Or.inl ⟨some ⟨g, 0, none⟩, _, by rw [e2], hL2, fun e => by cases e⟩
    · injection hu2 with e1 e2 e3
      exact Or.inr ⟨b2, off, n, by rw [e1, ← hn], hr⟩
  have HSL := Lib.hid hsl
  have hn1 : (n : Int).toNat = n := by omega
  have hn2 : (0 : Int) ≤ (n : Int) := by omega
  have hn3 : (n : Int) ≤ (cap : Int) := by omega
  clear h hn hkd hsl
  have c0d : W.drew.cell? ⟨p, 0, none⟩ = some (.slice (some ⟨g, 0, none⟩) n cap) := c0
  have c0e : ∀ o, (W.drew.alloc o).cell? ⟨p, 0, none⟩ = some (.slice (some ⟨g, 0, none⟩) n cap) := fun o => by
    rw [World.cell?_alloc_lt _ _ _ (by exact hp)]; exact c0
  have HFIN : Hid (∀ v' y6, OwnT (W.drew.alloc (.cells #[.int .u8 kd, .string s, .int .i64 0] 111 (0, 0))).heap.size v' (L ++ [⟨k, s.data.toList, 0⟩]) y6 → (W.drew.alloc (.cells #[.int .u8 kd, .string s, .int .i64 0] 111 (0, 0))).grownBy y6 none → (y6.cell? ⟨p, 0, none⟩ = some (.slice (some ⟨g, 0, none⟩) n cap) ∧ y6.frozen? ⟨p, 0, none⟩ = false) ∧ PutS p v' (L ++ [⟨k, s.data.toList, 0⟩]) (y6.setCell ⟨p, 0, none⟩ v') ∧ RK p W (y6.setCell ⟨p, 0, none⟩ v')) := Lib.hid (fun v' y6 ho hg => by
    have hpd : p < (W.drew.alloc (.cells #[.int .u8 kd, .string s, .int .i64 0] 111 (0, 0))).heap.size := by simp; exact Nat.lt_succ_of_lt hp
    have hb : (W.drew.alloc (.cells #[.int .u8 kd, .string s, .int .i64 0] 111 (0, 0))).heap[p]? = some (.cells #[.slice (some ⟨g, 0, none⟩) n cap] 97 (0, 0)) := heap_old HS.out.1
    have h6 := (hg.block p hpd (by intro e; cases e)).trans hb
    have hk1 : RK p W (W.drew.alloc (.cells #[.int .u8 kd, .string s, .int .i64 0] 111 (0, 0))) := ⟨(below_dN 1 (Below.refl p W)).alloc (by exact Nat.le_of_lt hp) _, fun j o hj _ => heap_old hj⟩
    have hk2 : RK p W y6 := hk1.trans (RK.grownN hg (Nat.le_of_lt hpd))
    refine ⟨⟨Lib.cell_of_heap h6 0, Lib.frozen_of_heap h6 0⟩, ⟨pset h6 _ rfl, (ho.lessU (by omega)).rk (RK.set p 0 y6 v') (Nat.lt_succ_self p)⟩, hk2.trans (RK.set p 0 y6 v')⟩)
  have HNEW : Hid ((W.drew.alloc (.cells #[.int .u8 kd, .string s, .int .i64 0] 111 (0, 0))).heap[W.heap.size]? = some (.cells #[.int .u8 (((⟨k, s.data.toList, 0⟩ : Tok).kind.toNat : Nat) : Int), .string ⟨(⟨k, s.data.toList, 0⟩ : Tok).text.toArray⟩, .int .i64 (⟨k, s.data.toList, 0⟩ : Tok).pos] 111 (0, 0))) := Lib.hid (by
    rw [show (((⟨k, s.data.toList, 0⟩ : Tok).kind.toNat : Nat) : Int) = kd from HKD.out]
    exact heap_alloc_last W.drew _)
  have HSD := Lib.hid (HSL.out.below ((below_dN 1 (Below.refl W.heap.size W)).alloc (Nat.le_refl _) (.cells #[.int .u8 kd, .string s, .int .i64 0] 111 (0, 0))))
  go_enter Tryz.func58, Tryz.ntmps58
  go_wp2_with fail
  refine wp_loop_rounds 2 ?_
  rw [rounds_succ]
  go_wp2_with fail
  refine wp_region_held_drew (S := fun _ => True) (by kernel_rfl) trivial (fun hHeld => ?_)
  refine tky 0 (some 14) (v := ?_) rfl (by kernel_rfl) (by kernel_rfl) (by kernel_rfl) (fun _ _ _ h => h) ?_ hHeld ?_
  rotate_left
  focus (intro w hSw; go_simp; (try with_reducible rfl); done)
  go_frame
  refine tky 1 (some 15) (v := ?_) rfl (by kernel_rfl) (by kernel_rfl) (by kernel_rfl) (fun _ _ _ h => h) ?_ hHeld ?_
  rotate_left
  focus (intro w hSw; go_simp; (try with_reducible rfl); done)
  go_frame
  refine tky 2 (some 16) (v := ?_) rfl (by kernel_rfl) (by kernel_rfl) (by kernel_rfl) (fun _ _ _ h => h) ?_ hHeld ?_
  rotate_left
  focus (intro w hSw; go_simp; (try with_reducible rfl); done)
  go_frame
  refine tky 3 (some 17) (v := ?_) rfl (by kernel_rfl) (by kernel_rfl) (by kernel_rfl) (fun _ _ _ h => h) ?_ hHeld ?_
  rotate_left
  focus (intro w hSw; go_simp; (try with_reducible rfl); done)
  go_frame
  refine tky 5 (some 19) (v := ?_) rfl (by kernel_rfl) (by kernel_rfl) (by kernel_rfl) (fun _ _ _ h => h) ?_ hHeld ?_
  rotate_left
  focus (intro w hSw; go_simp; (try with_reducible rfl); done)
  go_frame
  refine tky 6 (some 20) (v := ?_) rfl (by kernel_rfl) (by kernel_rfl) (by kernel_rfl) (fun _ _ _ h => h) ?_ hHeld ?_
  rotate_left
  focus (intro w hSw; go_simp; (try with_reducible rfl); done)
  go_frame
  refine tky 7 (some 21) (v := ?_) rfl (by kernel_rfl) (by kernel_rfl) (by kernel_rfl) (fun _ _ _ h => h) ?_ hHeld ?_
  rotate_left
  focus (intro w hSw; go_simp; (try with_reducible rfl); done)
  go_frame
  refine tky 10 (some 24) (v := ?_) rfl (by kernel_rfl) (by kernel_rfl) (by kernel_rfl) (fun _ _ _ h => h) ?_ hHeld ?_
  rotate_left
  focus (intro w hSw; go_simp; (try with_reducible rfl); done)
  go_frame
  refine tky 11 (some 25) (v := ?_) rfl (by kernel_rfl) (by kernel_rfl) (by kernel_rfl) (fun _ _ _ h => h) ?_ hHeld ?_
  rotate_left
  focus (intro w hSw; go_simp; (try with_reducible rfl); done)
  go_frame
  refine tky 12 (some 26) (v := ?_) rfl (by kernel_rfl) (by kernel_rfl) (by kernel_rfl) (fun _ _ _ h => h) ?_ hHeld ?_
  rotate_left
  focus (intro w hSw; go_simp; (try with_reducible rfl); done)
  go_frame
  refine tky 16 (some 30) (v := ?_) rfl (by kernel_rfl) (by kernel_rfl) (by kernel_rfl) (fun _ _ _ h => h) ?_ hHeld ?_
  rotate_left
  focus (intro w hSw; go_simp; (try with_reducible rfl); done)
  go_frame
  refine tky 17 (some 31) (v := ?_) rfl (by kernel_rfl) (by kernel_rfl) (by kernel_rfl) (fun _ _ _ h => h) ?_ hHeld ?_
  rotate_left
  focus (intro w hSw; go_simp; (try with_reducible rfl); done)
  go_frame
  refine tky 18 (some 32) (v := ?_) rfl (by kernel_rfl) (by kernel_rfl) (by kernel_rfl) (fun _ _ _ h => h) ?_ hHeld ?_
  rotate_left
  focus (intro w hSw; go_simp; (try with_reducible rfl); done)
  go_frame
  refine wpAnyH_ready (rs := [4, 8, 13, 19]) (by kernel_rfl) (by simp) ?_
  refine acons 4 rfl (fun K hK => ?_) ?_
  go_simp
  refine hK.out _ _ trivial (fun _ => ?_)
  clear hK K
  (try go_frame)
  refine wpAnyH_ready (rs := [8, 13, 19]) (by kernel_rfl) (by simp) ?_
  refine acons 8 rfl (fun K hK => ?_) ?_
  go_simp
  refine hK.out _ _ trivial (fun _ => ?_)
  clear hK K
  (try go_frame)
  refine tky 9 (some 23) (v := ?_) rfl (by kernel_rfl) (by kernel_rfl) (by kernel_rfl) (fun _ _ _ h => h) ?_ hHeld ?_
  rotate_left
  focus (intro w hSw; go_simp; (try with_reducible rfl); done)
  go_frame
  refine wpAnyH_ready (rs := [13, 19]) (by kernel_rfl) (by simp) ?_
  refine acons 13 rfl (fun K hK => ?_) ?_
  go_simp
  refine hK.out _ _ trivial (fun _ => ?_)
  clear hK K
  (try go_frame)
  refine tky 14 (some 28) (v := ?_) rfl (by kernel_rfl) (by kernel_rfl) (by kernel_rfl) (fun _ _ _ h => h) ?_ hHeld ?_
  rotate_left
  focus (intro w hSw; go_simp; (try with_reducible rfl); done)
  go_frame
  refine tky 15 (some 29) (v := ?_) rfl (by kernel_rfl) (by kernel_rfl) (by kernel_rfl) (fun _ _ _ h => h) ?_ hHeld ?_
  rotate_left
  focus (intro w hSw; go_simp; (try with_reducible rfl); done)
  go_frame
  refine rcons 19 rfl (by kernel_rfl) (fun K hK => ?_)
  go_simp
  refine hK.out _ _ trivial (fun _ => ?_)
  clear hK K
  (try go_frame)
  rotate_left
  refine acons 19 rfl (fun K hK => ?_) ?_
  go_simp
  refine hK.out _ _ trivial (fun _ => ?_)
  clear hK K
  (try go_frame)
  refine rcons 13 rfl (by kernel_rfl) (fun K hK => ?_)
  go_simp
  refine hK.out _ _ trivial (fun _ => ?_)
  clear hK K
  (try go_frame)
  refine tky 14 (some 28) (v := ?_) rfl (by kernel_rfl) (by kernel_rfl) (by kernel_rfl) (fun _ _ _ h => h) ?_ hHeld ?_
  rotate_left
  focus (intro w hSw; go_simp; (try with_reducible rfl); done)
  go_frame
  refine tky 15 (some 29) (v := ?_) rfl (by kernel_rfl) (by kernel_rfl) (by kernel_rfl) (fun _ _ _ h => h) ?_ hHeld ?_
  rotate_left
  focus (intro w hSw; go_simp; (try with_reducible rfl); done)
  go_frame
  rotate_left
  exact AllReadyH.nil
  refine acons 13 rfl (fun K hK => ?_) ?_
  go_simp
  refine hK.out _ _ trivial (fun _ => ?_)
  clear hK K
  (try go_frame)
  refine tky 14 (some 28) (v := ?_) rfl (by kernel_rfl) (by kernel_rfl) (by kernel_rfl) (fun _ _ _ h => h) ?_ hHeld ?_
  rotate_left
  focus (intro w hSw; go_simp; (try with_reducible rfl); done)
  go_frame
  refine wpAnyH_ready (rs := [8, 19]) (by kernel_rfl) (by simp) ?_
  refine acons 8 rfl (fun K hK => ?_) ?_
  go_simp
  refine hK.out _ _ trivial (fun _ => ?_)
  clear hK K
  (try go_frame)
  refine tky 9 (some 23) (v := ?_) rfl (by kernel_rfl) (by kernel_rfl) (by kernel_rfl) (fun _ _ _ h => h) ?_ hHeld ?_
  rotate_left
  focus (intro w hSw; go_simp; (try with_reducible rfl); done)
  go_frame
  refine tky 15 (some 29) (v := ?_) rfl (by kernel_rfl) (by kernel_rfl) (by kernel_rfl) (fun _ _ _ h => h) ?_ hHeld ?_
  rotate_left
  focus (intro w hSw; go_simp; (try with_reducible rfl); done)
  go_frame
  refine rcons 19 rfl (by kernel_rfl) (fun K hK => ?_)
  go_simp
  refine hK.out _ _ trivial (fun _ => ?_)
  clear hK K
  (try go_frame)
  rotate_left
  refine acons 19 rfl (fun K hK => ?_) ?_
  go_simp
  refine hK.out _ _ trivial (fun _ => ?_)
  clear hK K
  (try go_frame)
  refine rcons 8 rfl (by kernel_rfl) (fun K hK => ?_)
  go_simp
  refine hK.out _ _ trivial (fun _ => ?_)
  clear hK K
  (try go_frame)
  refine tky 9 (some 23) (v := ?_) rfl (by kernel_rfl) (by kernel_rfl) (by kernel_rfl) (fun _ _ _ h => h) ?_ hHeld ?_
  rotate_left
  focus (intro w hSw; go_simp; (try with_reducible rfl); done)
  go_frame
  refine tky 15 (some 29) (v := ?_) rfl (by kernel_rfl) (by kernel_rfl) (by kernel_rfl) (fun _ _ _ h => h) ?_ hHeld ?_
  rotate_left
  focus (intro w hSw; go_simp; (try with_reducible rfl); done)
  go_frame
  rotate_left
  exact AllReadyH.nil
  refine acons 19 rfl (fun K hK => ?_) ?_
  go_simp
  refine hK.out _ _ trivial (fun _ => ?_)
  clear hK K
  (try go_frame)
  refine wpAnyH_ready (rs := [8, 13]) (by kernel_rfl) (by simp) ?_
  refine acons 8 rfl (fun K hK => ?_) ?_
  go_simp
  refine hK.out _ _ trivial (fun _ => ?_)
  clear hK K
  (try go_frame)
  refine tky 9 (some 23) (v := ?_) rfl (by kernel_rfl) (by kernel_rfl) (by kernel_rfl) (fun _ _ _ h => h) ?_ hHeld ?_
  rotate_left
  focus (intro w hSw; go_simp; (try with_reducible rfl); done)
  go_frame
  refine rcons 13 rfl (by kernel_rfl) (fun K hK => ?_)
  go_simp
  refine hK.out _ _ trivial (fun _ => ?_)
  clear hK K
  (try go_frame)
  refine tky 14 (some 28) (v := ?_) rfl (by kernel_rfl) (by kernel_rfl) (by kernel_rfl) (fun _ _ _ h => h) ?_ hHeld ?_
  rotate_left
  focus (intro w hSw; go_simp; (try with_reducible rfl); done)
  go_frame
  refine tky 15 (some 29) (v := ?_) rfl (by kernel_rfl) (by kernel_rfl) (by kernel_rfl) (fun _ _ _ h => h) ?_ hHeld ?_
  rotate_left
  focus (intro w hSw; go_simp; (try with_reducible rfl); done)
  go_frame
  rotate_left
  refine acons 13 rfl (fun K hK => ?_) ?_
  go_simp
  refine hK.out _ _ trivial (fun _ => ?_)
  clear hK K
  (try go_frame)
  refine tky 14 (some 28) (v := ?_) rfl (by kernel_rfl) (by kernel_rfl) (by kernel_rfl) (fun _ _ _ h => h) ?_ hHeld ?_
  rotate_left
  focus (intro w hSw; go_simp; (try with_reducible rfl); done)
  go_frame
  refine rcons 8 rfl (by kernel_rfl) (fun K hK => ?_)
  go_simp
  refine hK.out _ _ trivial (fun _ => ?_)
  clear hK K
  (try go_frame)
  refine tky 9 (some 23) (v := ?_) rfl (by kernel_rfl) (by kernel_rfl) (by kernel_rfl) (fun _ _ _ h => h) ?_ hHeld ?_
  rotate_left
  focus (intro w hSw; go_simp; (try with_reducible rfl); done)
  go_frame
  refine tky 15 (some 29) (v := ?_) rfl (by kernel_rfl) (by kernel_rfl) (by kernel_rfl) (fun _ _ _ h => h) ?_ hHeld ?_
  rotate_left
  focus (intro w hSw; go_simp; (try with_reducible rfl); done)
  go_frame
  rotate_left
  exact AllReadyH.nil
  exact AllReadyH.nil
  refine acons 8 rfl (fun K hK => ?_) ?_
  go_simp
  refine hK.out _ _ trivial (fun _ => ?_)
  clear hK K
  (try go_frame)
  refine tky 9 (some 23) (v := ?_) rfl (by kernel_rfl) (by kernel_rfl) (by kernel_rfl) (fun _ _ _ h => h) ?_ hHeld ?_
  rotate_left
  focus (intro w hSw; go_simp; (try with_reducible rfl); done)
  go_frame
  refine wpAnyH_ready (rs := [4, 13, 19]) (by kernel_rfl) (by simp) ?_
  refine acons 4 rfl (fun K hK => ?_) ?_
  go_simp
  refine hK.out _ _ trivial (fun _ => ?_)
  clear hK K
  (try go_frame)
  refine wpAnyH_ready (rs := [13, 19]) (by kernel_rfl) (by simp) ?_
  refine acons 13 rfl (fun K hK => ?_) ?_
  go_simp
  refine hK.out _ _ trivial (fun _ => ?_)
  clear hK K
  (try go_frame)
  refine tky 14 (some 28) (v := ?_) rfl (by kernel_rfl) (by kernel_rfl) (by kernel_rfl) (fun _ _ _ h => h) ?_ hHeld ?_
  rotate_left
  focus (intro w hSw; go_simp; (try with_reducible rfl); done)
  go_frame
  refine tky 15 (some 29) (v := ?_) rfl (by kernel_rfl) (by kernel_rfl) (by kernel_rfl) (fun _ _ _ h => h) ?_ hHeld ?_
  rotate_left
  focus (intro w hSw; go_simp; (try with_reducible rfl); done)
  go_frame
  refine rcons 19 rfl (by kernel_rfl) (fun K hK => ?_)
  go_simp
  refine hK.out _ _ trivial (fun _ => ?_)
  clear hK K
  (try go_frame)
  rotate_left
  refine acons 19 rfl (fun K hK => ?_) ?_
  go_simp
  refine hK.out _ _ trivial (fun _ => ?_)
  clear hK K
  (try go_frame)
  refine rcons 13 rfl (by kernel_rfl) (fun K hK => ?_)
  go_simp
  refine hK.out _ _ trivial (fun _ => ?_)
  clear hK K
  (try go_frame)
  refine tky 14 (some 28) (v := ?_) rfl (by kernel_rfl) (by kernel_rfl) (by kernel_rfl) (fun _ _ _ h => h) ?_ hHeld ?_
  rotate_left
  focus (intro w hSw; go_simp; (try with_reducible rfl); done)
  go_frame
  refine tky 15 (some 29) (v := ?_) rfl (by kernel_rfl) (by kernel_rfl) (by kernel_rfl) (fun _ _ _ h => h) ?_ hHeld ?_
  rotate_left
  focus (intro w hSw; go_simp; (try with_reducible rfl); done)
  go_frame
  rotate_left
  exact AllReadyH.nil
  refine acons 13 rfl (fun K hK => ?_) ?_
  go_simp
  refine hK.out _ _ trivial (fun _ => ?_)
  clear hK K
  (try go_frame)
  refine tky 14 (some 28) (v := ?_) rfl (by kernel_rfl) (by kernel_rfl) (by kernel_rfl) (fun _ _ _ h => h) ?_ hHeld ?_
  rotate_left
  focus (intro w hSw; go_simp; (try with_reducible rfl); done)
  go_frame
  refine wpAnyH_ready (rs := [4, 19]) (by kernel_rfl) (by simp) ?_
  refine acons 4 rfl (fun K hK => ?_) ?_
  go_simp
  refine hK.out _ _ trivial (fun _ => ?_)
  clear hK K
  (try go_frame)
  refine tky 15 (some 29) (v := ?_) rfl (by kernel_rfl) (by kernel_rfl) (by kernel_rfl) (fun _ _ _ h => h) ?_ hHeld ?_
  rotate_left
  focus (intro w hSw; go_simp; (try with_reducible rfl); done)
  go_frame
  refine rcons 19 rfl (by kernel_rfl) (fun K hK => ?_)
  go_simp
  refine hK.out _ _ trivial (fun _ => ?_)
  clear hK K
  (try go_frame)
  rotate_left
  refine acons 19 rfl (fun K hK => ?_) ?_
  go_simp
  refine hK.out _ _ trivial (fun _ => ?_)
  clear hK K
  (try go_frame)
  refine rcons 4 rfl (by kernel_rfl) (fun K hK => ?_)
  go_simp
  refine hK.out _ _ trivial (fun _ => ?_)
  clear hK K
  (try go_frame)
  refine tky 15 (some 29) (v := ?_) rfl (by kernel_rfl) (by kernel_rfl) (by kernel_rfl) (fun _ _ _ h => h) ?_ hHeld ?_
  rotate_left
  focus (intro w hSw; go_simp; (try with_reducible rfl); done)
  go_frame
  rotate_left
  exact AllReadyH.nil
  refine acons 19 rfl (fun K hK => ?_) ?_
  go_simp
  refine hK.out _ _ trivial (fun _ => ?_)
  clear hK K
  (try go_frame)
  refine wpAnyH_ready (rs := [4, 13]) (by kernel_rfl) (by simp) ?_
  refine acons 4 rfl (fun K hK => ?_) ?_
  go_simp
  refine hK.out _ _ trivial (fun _ => ?_)
  clear hK K
  (try go_frame)
  refine rcons 13 rfl (by kernel_rfl) (fun K hK => ?_)
  go_simp
  refine hK.out _ _ trivial (fun _ => ?_)
  clear hK K
  (try go_frame)
  refine tky 14 (some 28) (v := ?_) rfl (by kernel_rfl) (by kernel_rfl) (by kernel_rfl) (fun _ _ _ h => h) ?_ hHeld ?_
  rotate_left
  focus (intro w hSw; go_simp; (try with_reducible rfl); done)
  go_frame
  refine tky 15 (some 29) (v := ?_) rfl (by kernel_rfl) (by kernel_rfl) (by kernel_rfl) (fun _ _ _ h => h) ?_ hHeld ?_
  rotate_left
  focus (intro w hSw; go_simp; (try with_reducible rfl); done)
  go_frame
  rotate_left
  refine acons 13 rfl (fun K hK => ?_) ?_
  go_simp
  refine hK.out _ _ trivial (fun _ => ?_)
  clear hK K
  (try go_frame)
  refine tky 14 (some 28) (v := ?_) rfl (by kernel_rfl) (by kernel_rfl) (by kernel_rfl) (fun _ _ _ h => h) ?_ hHeld ?_
  rotate_left
  focus (intro w hSw; go_simp; (try with_reducible rfl); done)
  go_frame
  refine rcons 4 rfl (by kernel_rfl) (fun K hK => ?_)
  go_simp
  refine hK.out _ _ trivial (fun _ => ?_)
  clear hK K
  (try go_frame)
  refine tky 15 (some 29) (v := ?_) rfl (by kernel_rfl) (by kernel_rfl) (by kernel_rfl) (fun _ _ _ h => h) ?_ hHeld ?_
  rotate_left
  focus (intro w hSw; go_simp; (try with_reducible rfl); done)
  go_frame
  rotate_left
  exact AllReadyH.nil
  exact AllReadyH.nil
  refine acons 13 rfl (fun K hK => ?_) ?_
  go_simp
  refine hK.out _ _ trivial (fun _ => ?_)
  clear hK K
  (try go_frame)
  refine tky 14 (some 28) (v := ?_) rfl (by kernel_rfl) (by kernel_rfl) (by kernel_rfl) (fun _ _ _ h => h) ?_ hHeld ?_
  rotate_left
  focus (intro w hSw; go_simp; (try with_reducible rfl); done)
  go_frame
  refine wpAnyH_ready (rs := [4, 8, 19]) (by kernel_rfl) (by simp) ?_
  refine acons 4 rfl (fun K hK => ?_) ?_
  go_simp
  refine hK.out _ _ trivial (fun _ => ?_)
  clear hK K
  (try go_frame)
  refine wpAnyH_ready (rs := [8, 19]) (by kernel_rfl) (by simp) ?_
  refine acons 8 rfl (fun K hK => ?_) ?_
  go_simp
  refine hK.out _ _ trivial (fun _ => ?_)
  clear hK K
  (try go_frame)
  refine tky 9 (some 23) (v := ?_) rfl (by kernel_rfl) (by kernel_rfl) (by kernel_rfl) (fun _ _ _ h => h) ?_ hHeld ?_
  rotate_left
  focus (intro w hSw; go_simp; (try with_reducible rfl); done)
  go_frame
  refine tky 15 (some 29) (v := ?_) rfl (by kernel_rfl) (by kernel_rfl) (by kernel_rfl) (fun _ _ _ h => h) ?_ hHeld ?_
  rotate_left
  focus (intro w hSw; go_simp; (try with_reducible rfl); done)
  go_frame
  refine rcons 19 rfl (by kernel_rfl) (fun K hK => ?_)
  go_simp
  refine hK.out _ _ trivial (fun _ => ?_)
  clear hK K
  (try go_frame)
  rotate_left
  refine acons 19 rfl (fun K hK => ?_) ?_
  go_simp
  refine hK.out _ _ trivial (fun _ => ?_)
  clear hK K
  (try go_frame)
  refine rcons 8 rfl (by kernel_rfl) (fun K hK => ?_)
  go_simp
  refine hK.out _ _ trivial (fun _ => ?_)
  clear hK K
  (try go_frame)
  refine tky 9 (some 23) (v := ?_) rfl (by kernel_rfl) (by kernel_rfl) (by kernel_rfl) (fun _ _ _ h => h) ?_ hHeld ?_
  rotate_left
  focus (intro w hSw; go_simp; (try with_reducible rfl); done)
  go_frame
  refine tky 15 (some 29) (v := ?_) rfl (by kernel_rfl) (by kernel_rfl) (by kernel_rfl) (fun _ _ _ h => h) ?_ hHeld ?_
  rotate_left
  focus (intro w hSw; go_simp; (try with_reducible rfl); done)
  go_frame
  rotate_left
  exact AllReadyH.nil
  refine acons 8 rfl (fun K hK => ?_) ?_
  go_simp
  refine hK.out _ _ trivial (fun _ => ?_)
  clear hK K
  (try go_frame)
  refine tky 9 (some 23) (v := ?_) rfl (by kernel_rfl) (by kernel_rfl) (by kernel_rfl) (fun _ _ _ h => h) ?_ hHeld ?_
  rotate_left
  focus (intro w hSw; go_simp; (try with_reducible rfl); done)
  go_frame
  refine wpAnyH_ready (rs := [4, 19]) (by kernel_rfl) (by simp) ?_
  refine acons 4 rfl (fun K hK => ?_) ?_
  go_simp
  refine hK.out _ _ trivial (fun _ => ?_)
  clear hK K
  (try go_frame)
  refine tky 15 (some 29) (v := ?_) rfl (by kernel_rfl) (by kernel_rfl) (by kernel_rfl) (fun _ _ _ h => h) ?_ hHeld ?_
  rotate_left
  focus (intro w hSw; go_simp; (try with_reducible rfl); done)
  go_frame
  refine rcons 19 rfl (by kernel_rfl) (fun K hK => ?_)
  go_simp
  refine hK.out _ _ trivial (fun _ => ?_)
  clear hK K
  (try go_frame)
  rotate_left
  refine acons 19 rfl (fun K hK => ?_) ?_
  go_simp
  refine hK.out _ _ trivial (fun _ => ?_)
  clear hK K
  (try go_frame)
  refine rcons 4 rfl (by kernel_rfl) (fun K hK => ?_)
  go_simp
  refine hK.out _ _ trivial (fun _ => ?_)
  clear hK K
  (try go_frame)
  refine tky 15 (some 29) (v := ?_) rfl (by kernel_rfl) (by kernel_rfl) (by kernel_rfl) (fun _ _ _ h => h) ?_ hHeld ?_
  rotate_left
  focus (intro w hSw; go_simp; (try with_reducible rfl); done)
  go_frame
  rotate_left
  exact AllReadyH.nil
  refine acons 19 rfl (fun K hK => ?_) ?_
  go_simp
  refine hK.out _ _ trivial (fun _ => ?_)
  clear hK K
  (try go_frame)
  refine wpAnyH_ready (rs := [4, 8]) (by kernel_rfl) (by simp) ?_
  refine acons 4 rfl (fun K hK => ?_) ?_
  go_simp
  refine hK.out _ _ trivial (fun _ => ?_)
  clear hK K
  (try go_frame)
  refine rcons 8 rfl (by kernel_rfl) (fun K hK => ?_)
  go_simp
  refine hK.out _ _ trivial (fun _ => ?_)
  clear hK K
  (try go_frame)
  refine tky 9 (some 23) (v := ?_) rfl (by kernel_rfl) (by kernel_rfl) (by kernel_rfl) (fun _ _ _ h => h) ?_ hHeld ?_
  rotate_left
  focus (intro w hSw; go_simp; (try with_reducible rfl); done)
  go_frame
  refine tky 15 (some 29) (v := ?_) rfl (by kernel_rfl) (by kernel_rfl) (by kernel_rfl) (fun _ _ _ h => h) ?_ hHeld ?_
  rotate_left
  focus (intro w hSw; go_simp; (try with_reducible rfl); done)
  go_frame
  rotate_left
  refine acons 8 rfl (fun K hK => ?_) ?_
  go_simp
  refine hK.out _ _ trivial (fun _ => ?_)
  clear hK K
  (try go_frame)
  refine tky 9 (some 23) (v := ?_) rfl (by kernel_rfl) (by kernel_rfl) (by kernel_rfl) (fun _ _ _ h => h) ?_ hHeld ?_
  rotate_left
  focus (intro w hSw; go_simp; (try with_reducible rfl); done)
  go_frame
  refine rcons 4 rfl (by kernel_rfl) (fun K hK => ?_)
  go_simp
  refine hK.out _ _ trivial (fun _ => ?_)
  clear hK K
  (try go_frame)
  refine tky 15 (some 29) (v := ?_) rfl (by kernel_rfl) (by kernel_rfl) (by kernel_rfl) (fun _ _ _ h => h) ?_ hHeld ?_
  rotate_left
  focus (intro w hSw; go_simp; (try with_reducible rfl); done)
  go_frame
  rotate_left
  exact AllReadyH.nil
  exact AllReadyH.nil
  refine acons 19 rfl (fun K hK => ?_) ?_
  go_simp
  refine hK.out _ _ trivial (fun _ => ?_)
  clear hK K
  (try go_frame)
  refine wpAnyH_ready (rs := [4, 8, 13]) (by kernel_rfl) (by simp) ?_
  refine acons 4 rfl (fun K hK => ?_) ?_
  go_simp
  refine hK.out _ _ trivial (fun _ => ?_)
  clear hK K
  (try go_frame)
  refine wpAnyH_ready (rs := [8, 13]) (by kernel_rfl) (by simp) ?_
  refine acons 8 rfl (fun K hK => ?_) ?_
  go_simp
  refine hK.out _ _ trivial (fun _ => ?_)
  clear hK K
  (try go_frame)
  refine tky 9 (some 23) (v := ?_) rfl (by kernel_rfl) (by kernel_rfl) (by kernel_rfl) (fun _ _ _ h => h) ?_ hHeld ?_
  rotate_left
  focus (intro w hSw; go_simp; (try with_reducible rfl); done)
  go_frame
  refine rcons 13 rfl (by kernel_rfl) (fun K hK => ?_)
  go_simp
  refine hK.out _ _ trivial (fun _ => ?_)
  clear hK K
  (try go_frame)
  refine tky 14 (some 28) (v := ?_) rfl (by kernel_rfl) (by kernel_rfl) (by kernel_rfl) (fun _ _ _ h => h) ?_ hHeld ?_
  rotate_left
  focus (intro w hSw; go_simp; (try with_reducible rfl); done)
  go_frame
  refine tky 15 (some 29) (v := ?_) rfl (by kernel_rfl) (by kernel_rfl) (by kernel_rfl) (fun _ _ _ h => h) ?_ hHeld ?_
  rotate_left
  focus (intro w hSw; go_simp; (try with_reducible rfl); done)
  go_frame
  rotate_left
  refine acons 13 rfl (fun K hK => ?_) ?_
  go_simp
  refine hK.out _ _ trivial (fun _ => ?_)
  clear hK K
  (try go_frame)
  refine tky 14 (some 28) (v := ?_) rfl (by kernel_rfl) (by kernel_rfl) (by kernel_rfl) (fun _ _ _ h => h) ?_ hHeld ?_
  rotate_left
  focus (intro w hSw; go_simp; (try with_reducible rfl); done)
  go_frame
  refine rcons 8 rfl (by kernel_rfl) (fun K hK => ?_)
  go_simp
  refine hK.out _ _ trivial (fun _ => ?_)
  clear hK K
  (try go_frame)
  refine tky 9 (some 23) (v := ?_) rfl (by kernel_rfl) (by kernel_rfl) (by kernel_rfl) (fun _ _ _ h => h) ?_ hHeld ?_
  rotate_left
  focus (intro w hSw; go_simp; (try with_reducible rfl); done)
  go_frame
  refine tky 15 (some 29) (v := ?_) rfl (by kernel_rfl) (by kernel_rfl) (by kernel_rfl) (fun _ _ _ h => h) ?_ hHeld ?_
  rotate_left
  focus (intro w hSw; go_simp; (try with_reducible rfl); done)
  go_frame
  rotate_left
  exact AllReadyH.nil
  refine acons 8 rfl (fun K hK => ?_) ?_
  go_simp
  refine hK.out _ _ trivial (fun _ => ?_)
  clear hK K
  (try go_frame)
  refine tky 9 (some 23) (v := ?_) rfl (by kernel_rfl) (by kernel_rfl) (by kernel_rfl) (fun _ _ _ h => h) ?_ hHeld ?_
  rotate_left
  focus (intro w hSw; go_simp; (try with_reducible rfl); done)
  go_frame
  refine wpAnyH_ready (rs := [4, 13]) (by kernel_rfl) (by simp) ?_
  refine acons 4 rfl (fun K hK => ?_) ?_
  go_simp
  refine hK.out _ _ trivial (fun _ => ?_)
  clear hK K
  (try go_frame)
  refine rcons 13 rfl (by kernel_rfl) (fun K hK => ?_)
  go_simp
  refine hK.out _ _ trivial (fun _ => ?_)
  clear hK K
  (try go_frame)
  refine tky 14 (some 28) (v := ?_) rfl (by kernel_rfl) (by kernel_rfl) (by kernel_rfl) (fun _ _ _ h => h) ?_ hHeld ?_
  rotate_left
  focus (intro w hSw; go_simp; (try with_reducible rfl); done)
  go_frame
  refine tky 15 (some 29) (v := ?_) rfl (by kernel_rfl) (by kernel_rfl) (by kernel_rfl) (fun _ _ _ h => h) ?_ hHeld ?_
  rotate_left
  focus (intro w hSw; go_simp; (try with_reducible rfl); done)
  go_frame
  rotate_left
  refine acons 13 rfl (fun K hK => ?_) ?_
  go_simp
  refine hK.out _ _ trivial (fun _ => ?_)
  clear hK K
  (try go_frame)
  refine tky 14 (some 28) (v := ?_) rfl (by kernel_rfl) (by kernel_rfl) (by kernel_rfl) (fun _ _ _ h => h) ?_ hHeld ?_
  rotate_left
  focus (intro w hSw; go_simp; (try with_reducible rfl); done)
  go_frame
  refine rcons 4 rfl (by kernel_rfl) (fun K hK => ?_)
  go_simp
  refine hK.out _ _ trivial (fun _ => ?_)
  clear hK K
  (try go_frame)
  refine tky 15 (some 29) (v := ?_) rfl (by kernel_rfl) (by kernel_rfl) (by kernel_rfl) (fun _ _ _ h => h) ?_ hHeld ?_
  rotate_left
  focus (intro w hSw; go_simp; (try with_reducible rfl); done)
  go_frame
  rotate_left
  exact AllReadyH.nil
  refine acons 13 rfl (fun K hK => ?_) ?_
  go_simp
  refine hK.out _ _ trivial (fun _ => ?_)
  clear hK K
  (try go_frame)
  refine tky 14 (some 28) (v := ?_) rfl (by kernel_rfl) (by kernel_rfl) (by kernel_rfl) (fun _ _ _ h => h) ?_ hHeld ?_
  rotate_left
  focus (intro w hSw; go_simp; (try with_reducible rfl); done)
  go_frame
  refine wpAnyH_ready (rs := [4, 8]) (by kernel_rfl) (by simp) ?_
  refine acons 4 rfl (fun K hK => ?_) ?_
  go_simp
  refine hK.out _ _ trivial (fun _ => ?_)
  clear hK K
  (try go_frame)
  refine rcons 8 rfl (by kernel_rfl) (fun K hK => ?_)
  go_simp
  refine hK.out _ _ trivial (fun _ => ?_)
  clear hK K
  (try go_frame)
  refine tky 9 (some 23) (v := ?_) rfl (by kernel_rfl) (by kernel_rfl) (by kernel_rfl) (fun _ _ _ h => h) ?_ hHeld ?_
  rotate_left
  focus (intro w hSw; go_simp; (try with_reducible rfl); done)
  go_frame
  refine tky 15 (some 29) (v := ?_) rfl (by kernel_rfl) (by kernel_rfl) (by kernel_rfl) (fun _ _ _ h => h) ?_ hHeld ?_
  rotate_left
  focus (intro w hSw; go_simp; (try with_reducible rfl); done)
  go_frame
  rotate_left
  refine acons 8 rfl (fun K hK => ?_) ?_
  go_simp
  refine hK.out _ _ trivial (fun _ => ?_)
  clear hK K
  (try go_frame)
  refine tky 9 (some 23) (v := ?_) rfl (by kernel_rfl) (by kernel_rfl) (by kernel_rfl) (fun _ _ _ h => h) ?_ hHeld ?_
  rotate_left
  focus (intro w hSw; go_simp; (try with_reducible rfl); done)
  go_frame
  refine rcons 4 rfl (by kernel_rfl) (fun K hK => ?_)
  go_simp
  refine hK.out _ _ trivial (fun _ => ?_)
  clear hK K
  (try go_frame)
  refine tky 15 (some 29) (v := ?_) rfl (by kernel_rfl) (by kernel_rfl) (by kernel_rfl) (fun _ _ _ h => h) ?_ hHeld ?_
  rotate_left
  focus (intro w hSw; go_simp; (try with_reducible rfl); done)
  go_frame
  rotate_left
  exact AllReadyH.nil
  exact AllReadyH.nil
  exact AllReadyH.nil
  all_goals
    refine rcons 20 rfl (by kernel_rfl) (fun K hK => ?_)
    rw [if_pos]
    rotate_left
    focus kernel_rfl
    refine wp_appendN _ _ rfl (some ⟨g, 0, none⟩) n L HN.out rfl (by exact HSD.out) W.heap.size 1 ⟨k, s.data.toList, 0⟩ rfl (by exact HNEW.out) (by omega) ?_
    intro v' y6 hown hgrow
    obtain ⟨⟨c6, f6⟩, hfin⟩ := HFIN.out v' y6 hown hgrow
    obtain ⟨g6, n6, cap6, rfl, -, -, -⟩ := hown.formU (by simp)
    clear hown hgrow
    (try dsimp only)
    refine hK.out _ _ trivial (fun _ => ?_)
    clear hK K
    (try go_frame)
    refine tky 21 (some 35) (v := ?_) rfl (by kernel_rfl) (by kernel_rfl) (by kernel_rfl) (fun _ _ _ h => h) ?_ hHeld ?_
    rotate_left
    focus (intro w hSw; go_simp; (try with_reducible rfl); done)
    go_frame
    refine tky 22 (some 36) (v := ?_) rfl (by kernel_rfl) (by kernel_rfl) (by kernel_rfl) (fun _ _ _ h => h) ?_ hHeld ?_
    rotate_left
    focus (intro w hSw; go_simp; (try with_reducible rfl); done)
    go_frame
    refine rcons 23 rfl (by kernel_rfl) (fun K hK => ?_)
    go_simp
    refine hK.out _ _ trivial (fun _ => ?_)
    clear hK K
    (try go_frame)
    refine wpAnyH_done (by kernel_rfl) ?_ _
    go_wp2_with fail
    rw [rounds_succ]
    go_wp2_with fail
    go_end0
    exact ⟨rfl, ⟨_, hfin.1⟩, hfin.2⟩
set_option maxRecDepth 100000 in
set_option maxHeartbeats 8000000 in
theorem put_add_none (p : Nat) (ao : Option Addr) (n cap : Nat) (L : List Tok) (k : UInt8) (s : ByteArray) (lb cl : Nat) (W : World) (hao : ao = none ∧ n = 0 ∧ cap = 0) (hn : n = L.length) (hcap : n ≤ cap) (h : PutS p (.slice ao n cap) L W) (hl : W.cell? ⟨lb, 0, none⟩ = some (.string s)) (hlb : lb ≠ p) (hL : L.length ≤ 100000) :
    Calls Tryz.prog 58 #[.pointer (some ⟨p, 0, none⟩), .int .u8 (k.toNat : Int), .slice (some ⟨lb, 0, none⟩) 1 cl] W fun x W' => x = .returned (.tuple #[]) ∧ (∃ v', PutS p v' (L ++ [⟨k, s.data.toList, 0⟩]) W') ∧ RK p W W' := by
  obtain ⟨kd, hkd⟩ : ∃ kd : Int, (k.toNat : Int) = kd := ⟨_, rfl⟩
  rw [hkd]
  have HKD := Lib.hid hkd
  obtain ⟨rfl, rfl, rfl⟩ := hao
  have HS := Lib.hid h
  have HN := Lib.hid hn
  have hp := h.lt
  have c0 := h.cell
  have f0 : W.frozen? ⟨p, 0, none⟩ = false := Lib.frozen_of_heap h.1 0
  have hsl : TokSl (.slice none 0 0) L W := by
    exact Or.inl ⟨none, 0, rfl, List.eq_nil_of_length_eq_zero hn.symm, fun _ => rfl⟩
  have HSL := Lib.hid hsl
  clear h hn hkd hsl
  have c0d : W.drew.cell? ⟨p, 0, none⟩ = some (.slice none 0 0) := c0
  have c0e : ∀ o, (W.drew.alloc o).cell? ⟨p, 0, none⟩ = some (.slice none 0 0) := fun o => by
    rw [World.cell?_alloc_lt _ _ _ (by exact hp)]; exact c0
  have HFIN : Hid (∀ v' y6, OwnT (W.drew.alloc (.cells #[.int .u8 kd, .string s, .int .i64 0] 111 (0, 0))).heap.size v' (L ++ [⟨k, s.data.toList, 0⟩]) y6 → (W.drew.alloc (.cells #[.int .u8 kd, .string s, .int .i64 0] 111 (0, 0))).grownBy y6 none → (y6.cell? ⟨p, 0, none⟩ = some (.slice none 0 0) ∧ y6.frozen? ⟨p, 0, none⟩ = false) ∧ PutS p v' (L ++ [⟨k, s.data.toList, 0⟩]) (y6.setCell ⟨p, 0, none⟩ v') ∧ RK p W (y6.setCell ⟨p, 0, none⟩ v')) := Lib.hid (fun v' y6 ho hg => by
    have hpd : p < (W.drew.alloc (.cells #[.int .u8 kd, .string s, .int .i64 0] 111 (0, 0))).heap.size := by simp; exact Nat.lt_succ_of_lt hp
    have hb : (W.drew.alloc (.cells #[.int .u8 kd, .string s, .int .i64 0] 111 (0, 0))).heap[p]? = some (.cells #[.slice none 0 0] 97 (0, 0)) := heap_old HS.out.1
    have h6 := (hg.block p hpd (by intro e; cases e)).trans hb
    have hk1 : RK p W (W.drew.alloc (.cells #[.int .u8 kd, .string s, .int .i64 0] 111 (0, 0))) := ⟨(below_dN 1 (Below.refl p W)).alloc (by exact Nat.le_of_lt hp) _, fun j o hj _ => heap_old hj⟩
    have hk2 : RK p W y6 := hk1.trans (RK.grownN hg (Nat.le_of_lt hpd))
    refine ⟨⟨Lib.cell_of_heap h6 0, Lib.frozen_of_heap h6 0⟩, ⟨pset h6 _ rfl, (ho.lessU (by omega)).rk (RK.set p 0 y6 v') (Nat.lt_succ_self p)⟩, hk2.trans (RK.set p 0 y6 v')⟩)
  have HNEW : Hid ((W.drew.alloc (.cells #[.int .u8 kd, .string s, .int .i64 0] 111 (0, 0))).heap[W.heap.size]? = some (.cells #[.int .u8 (((⟨k, s.data.toList, 0⟩ : Tok).kind.toNat : Nat) : Int), .string ⟨(⟨k, s.data.toList, 0⟩ : Tok).text.toArray⟩, .int .i64 (⟨k, s.data.toList, 0⟩ : Tok).pos] 111 (0, 0))) := Lib.hid (by
    rw [show (((⟨k, s.data.toList, 0⟩ : Tok).kind.toNat : Nat) : Int) = kd from HKD.out]
    exact heap_alloc_last W.drew _)
  have HSD := Lib.hid (HSL.out.below ((below_dN 1 (Below.refl W.heap.size W)).alloc (Nat.le_refl _) (.cells #[.int .u8 kd, .string s, .int .i64 0] 111 (0, 0))))
  go_enter Tryz.func58, Tryz.ntmps58
  go_wp2_with fail
  refine wp_loop_rounds 2 ?_
  rw [rounds_succ]
  go_wp2_with fail
  refine wp_region_held_drew (S := fun _ => True) (by kernel_rfl) trivial (fun hHeld => ?_)
  refine tky 0 (some 14) (v := ?_) rfl (by kernel_rfl) (by kernel_rfl) (by kernel_rfl) (fun _ _ _ h => h) ?_ hHeld ?_
  rotate_left
  focus (intro w hSw; go_simp; (try with_reducible rfl); done)
  go_frame
  refine tky 1 (some 15) (v := ?_) rfl (by kernel_rfl) (by kernel_rfl) (by kernel_rfl) (fun _ _ _ h => h) ?_ hHeld ?_
  rotate_left
  focus (intro w hSw; go_simp; (try with_reducible rfl); done)
  go_frame
  refine tky 2 (some 16) (v := ?_) rfl (by kernel_rfl) (by kernel_rfl) (by kernel_rfl) (fun _ _ _ h => h) ?_ hHeld ?_
  rotate_left
  focus (intro w hSw; go_simp; (try with_reducible rfl); done)
  go_frame
  refine tky 3 (some 17) (v := ?_) rfl (by kernel_rfl) (by kernel_rfl) (by kernel_rfl) (fun _ _ _ h => h) ?_ hHeld ?_
  rotate_left
  focus (intro w hSw; go_simp; (try with_reducible rfl); done)
  go_frame
  refine tky 5 (some 19) (v := ?_) rfl (by kernel_rfl) (by kernel_rfl) (by kernel_rfl) (fun _ _ _ h => h) ?_ hHeld ?_
  rotate_left
  focus (intro w hSw; go_simp; (try with_reducible rfl); done)
  go_frame
  refine tky 6 (some 20) (v := ?_) rfl (by kernel_rfl) (by kernel_rfl) (by kernel_rfl) (fun _ _ _ h => h) ?_ hHeld ?_
  rotate_left
  focus (intro w hSw; go_simp; (try with_reducible rfl); done)
  go_frame
  refine tky 7 (some 21) (v := ?_) rfl (by kernel_rfl) (by kernel_rfl) (by kernel_rfl) (fun _ _ _ h => h) ?_ hHeld ?_
  rotate_left
  focus (intro w hSw; go_simp; (try with_reducible rfl); done)
  go_frame
  refine tky 10 (some 24) (v := ?_) rfl (by kernel_rfl) (by kernel_rfl) (by kernel_rfl) (fun _ _ _ h => h) ?_ hHeld ?_
  rotate_left
  focus (intro w hSw; go_simp; (try with_reducible rfl); done)
  go_frame
  refine tky 11 (some 25) (v := ?_) rfl (by kernel_rfl) (by kernel_rfl) (by kernel_rfl) (fun _ _ _ h => h) ?_ hHeld ?_
  rotate_left
  focus (intro w hSw; go_simp; (try with_reducible rfl); done)
  go_frame
  refine tky 12 (some 26) (v := ?_) rfl (by kernel_rfl) (by kernel_rfl) (by kernel_rfl) (fun _ _ _ h => h) ?_ hHeld ?_
  rotate_left
  focus (intro w hSw; go_simp; (try with_reducible rfl); done)
  go_frame
  refine tky 16 (some 30) (v := ?_) rfl (by kernel_rfl) (by kernel_rfl) (by kernel_rfl) (fun _ _ _ h => h) ?_ hHeld ?_
  rotate_left
  focus (intro w hSw; go_simp; (try with_reducible rfl); done)
  go_frame
  refine tky 17 (some 31) (v := ?_) rfl (by kernel_rfl) (by kernel_rfl) (by kernel_rfl) (fun _ _ _ h => h) ?_ hHeld ?_
  rotate_left
  focus (intro w hSw; go_simp; (try with_reducible rfl); done)
  go_frame
  refine tky 18 (some 32) (v := ?_) rfl (by kernel_rfl) (by kernel_rfl) (by kernel_rfl) (fun _ _ _ h => h) ?_ hHeld ?_
  rotate_left
  focus (intro w hSw; go_simp; (try with_reducible rfl); done)
  go_frame
  refine wpAnyH_ready (rs := [4, 8, 13, 19]) (by kernel_rfl) (by simp) ?_
  refine acons 4 rfl (fun K hK => ?_) ?_
  go_simp
  refine hK.out _ _ trivial (fun _ => ?_)
  clear hK K
  (try go_frame)
  refine wpAnyH_ready (rs := [8, 13, 19]) (by kernel_rfl) (by simp) ?_
  refine acons 8 rfl (fun K hK => ?_) ?_
  go_simp
  refine hK.out _ _ trivial (fun _ => ?_)
  clear hK K
  (try go_frame)
  refine tky 9 (some 23) (v := ?_) rfl (by kernel_rfl) (by kernel_rfl) (by kernel_rfl) (fun _ _ _ h => h) ?_ hHeld ?_
  rotate_left
  focus (intro w hSw; go_simp; (try with_reducible rfl); done)
  go_frame
  refine wpAnyH_ready (rs := [13, 19]) (by kernel_rfl) (by simp) ?_
  refine acons 13 rfl (fun K hK => ?_) ?_
  go_simp
  refine hK.out _ _ trivial (fun _ => ?_)
  clear hK K
  (try go_frame)
  refine tky 14 (some 28) (v := ?_) rfl (by kernel_rfl) (by kernel_rfl) (by kernel_rfl) (fun _ _ _ h => h) ?_ hHeld ?_
  rotate_left
  focus (intro w hSw; go_simp; (try with_reducible rfl); done)
  go_frame
  refine tky 15 (some 29) (v := ?_) rfl (by kernel_rfl) (by kernel_rfl) (by kernel_rfl) (fun _ _ _ h => h) ?_ hHeld ?_
  rotate_left
  focus (intro w hSw; go_simp; (try with_reducible rfl); done)
  go_frame
  refine rcons 19 rfl (by kernel_rfl) (fun K hK => ?_)
  go_simp
  refine hK.out _ _ trivial (fun _ => ?_)
  clear hK K
  (try go_frame)
  rotate_left
  refine acons 19 rfl (fun K hK => ?_) ?_
  go_simp
  refine hK.out _ _ trivial (fun _ => ?_)
  clear hK K
  (try go_frame)
  refine rcons 13 rfl (by kernel_rfl) (fun K hK => ?_)
  go_simp
  refine hK.out _ _ trivial (fun _ => ?_)
  clear hK K
  (try go_frame)
  refine tky 14 (some 28) (v := ?_) rfl (by kernel_rfl) (by kernel_rfl) (by kernel_rfl) (fun _ _ _ h => h) ?_ hHeld ?_
  rotate_left
  focus (intro w hSw; go_simp; (try with_reducible rfl); done)
  go_frame
  refine tky 15 (some 29) (v := ?_) rfl (by kernel_rfl) (by kernel_rfl) (by kernel_rfl) (fun _ _ _ h => h) ?_ hHeld ?_
  rotate_left
  focus (intro w hSw; go_simp; (try with_reducible rfl); done)
  go_frame
  rotate_left
  exact AllReadyH.nil
  refine acons 13 rfl (fun K hK => ?_) ?_
  go_simp
  refine hK.out _ _ trivial (fun _ => ?_)
  clear hK K
  (try go_frame)
  refine tky 14 (some 28) (v := ?_) rfl (by kernel_rfl) (by kernel_rfl) (by kernel_rfl) (fun _ _ _ h => h) ?_ hHeld ?_
  rotate_left
  focus (intro w hSw; go_simp; (try with_reducible rfl); done)
  go_frame
  refine wpAnyH_ready (rs := [8, 19]) (by kernel_rfl) (by simp) ?_
  refine acons 8 rfl (fun K hK => ?_) ?_
  go_simp
  refine hK.out _ _ trivial (fun _ => ?_)
  clear hK K
  (try go_frame)
  refine tky 9 (some 23) (v := ?_) rfl (by kernel_rfl) (by kernel_rfl) (by kernel_rfl) (fun _ _ _ h => h) ?_ hHeld ?_
  rotate_left
  focus (intro w hSw; go_simp; (try with_reducible rfl); done)
  go_frame
  refine tky 15 (some 29) (v := ?_) rfl (by kernel_rfl) (by kernel_rfl) (by kernel_rfl) (fun _ _ _ h => h) ?_ hHeld ?_
  rotate_left
  focus (intro w hSw; go_simp; (try with_reducible rfl); done)
  go_frame
  refine rcons 19 rfl (by kernel_rfl) (fun K hK => ?_)
  go_simp
  refine hK.out _ _ trivial (fun _ => ?_)
  clear hK K
  (try go_frame)
  rotate_left
  refine acons 19 rfl (fun K hK => ?_) ?_
  go_simp
  refine hK.out _ _ trivial (fun _ => ?_)
  clear hK K
  (try go_frame)
  refine rcons 8 rfl (by kernel_rfl) (fun K hK => ?_)
  go_simp
  refine hK.out _ _ trivial (fun _ => ?_)
  clear hK K
  (try go_frame)
  refine tky 9 (some 23) (v := ?_) rfl (by kernel_rfl) (by kernel_rfl) (by kernel_rfl) (fun _ _ _ h => h) ?_ hHeld ?_
  rotate_left
  focus (intro w hSw; go_simp; (try with_reducible rfl); done)
  go_frame
  refine tky 15 (some 29) (v := ?_) rfl (by kernel_rfl) (by kernel_rfl) (by kernel_rfl) (fun _ _ _ h => h) ?_ hHeld ?_
  rotate_left
  focus (intro w hSw; go_simp; (try with_reducible rfl); done)
  go_frame
  rotate_left
  exact AllReadyH.nil
  refine acons 19 rfl (fun K hK => ?_) ?_
  go_simp
  refine hK.out _ _ trivial (fun _ => ?_)
  clear hK K
  (try go_frame)
  refine wpAnyH_ready (rs := [8, 13]) (by kernel_rfl) (by simp) ?_
  refine acons 8 rfl (fun K hK => ?_) ?_
  go_simp
  refine hK.out _ _ trivial (fun _ => ?_)
  clear hK K
  (try go_frame)
  refine tky 9 (some 23) (v := ?_) rfl (by kernel_rfl) (by kernel_rfl) (by kernel_rfl) (fun _ _ _ h => h) ?_ hHeld ?_
  rotate_left
  focus (intro w hSw; go_simp; (try with_reducible rfl); done)
  go_frame
  refine rcons 13 rfl (by kernel_rfl) (fun K hK => ?_)
  go_simp
  refine hK.out _ _ trivial (fun _ => ?_)
  clear hK K
  (try go_frame)
  refine tky 14 (some 28) (v := ?_) rfl (by kernel_rfl) (by kernel_rfl) (by kernel_rfl) (fun _ _ _ h => h) ?_ hHeld ?_
  rotate_left
  focus (intro w hSw; go_simp; (try with_reducible rfl); done)
  go_frame
  refine tky 15 (some 29) (v := ?_) rfl (by kernel_rfl) (by kernel_rfl) (by kernel_rfl) (fun _ _ _ h => h) ?_ hHeld ?_
  rotate_left
  focus (intro w hSw; go_simp; (try with_reducible rfl); done)
  go_frame
  rotate_left
  refine acons 13 rfl (fun K hK => ?_) ?_
  go_simp
  refine hK.out _ _ trivial (fun _ => ?_)
  clear hK K
  (try go_frame)
  refine tky 14 (some 28) (v := ?_) rfl (by kernel_rfl) (by kernel_rfl) (by kernel_rfl) (fun _ _ _ h => h) ?_ hHeld ?_
  rotate_left
  focus (intro w hSw; go_simp; (try with_reducible rfl); done)
  go_frame
  refine rcons 8 rfl (by kernel_rfl) (fun K hK => ?_)
  go_simp
  refine hK.out _ _ trivial (fun _ => ?_)
  clear hK K
  (try go_frame)
  refine tky 9 (some 23) (v := ?_) rfl (by kernel_rfl) (by kernel_rfl) (by kernel_rfl) (fun _ _ _ h => h) ?_ hHeld ?_
  rotate_left
  focus (intro w hSw; go_simp; (try with_reducible rfl); done)
  go_frame
  refine tky 15 (some 29) (v := ?_) rfl (by kernel_rfl) (by kernel_rfl) (by kernel_rfl) (fun _ _ _ h => h) ?_ hHeld ?_
  rotate_left
  focus (intro w hSw; go_simp; (try with_reducible rfl); done)
  go_frame
  rotate_left
  exact AllReadyH.nil
  exact AllReadyH.nil
  refine acons 8 rfl (fun K hK => ?_) ?_
  go_simp
  refine hK.out _ _ trivial (fun _ => ?_)
  clear hK K
  (try go_frame)
  refine tky 9 (some 23) (v := ?_) rfl (by kernel_rfl) (by kernel_rfl) (by kernel_rfl) (fun _ _ _ h => h) ?_ hHeld ?_
  rotate_left
  focus (intro w hSw; go_simp; (try with_reducible rfl); done)
  go_frame
  refine wpAnyH_ready (rs := [4, 13, 19]) (by kernel_rfl) (by simp) ?_
  refine acons 4 rfl (fun K hK => ?_) ?_
  go_simp
  refine hK.out _ _ trivial (fun _ => ?_)
  clear hK K
  (try go_frame)
  refine wpAnyH_ready (rs := [13, 19]) (by kernel_rfl) (by simp) ?_
  refine acons 13 rfl (fun K hK => ?_) ?_
  go_simp
  refine hK.out _ _ trivial (fun _ => ?_)
  clear hK K
  (try go_frame)
  refine tky 14 (some 28) (v := ?_) rfl (by kernel_rfl) (by kernel_rfl) (by kernel_rfl) (fun _ _ _ h => h) ?_ hHeld ?_
  rotate_left
  focus (intro w hSw; go_simp; (try with_reducible rfl); done)
  go_frame
  refine tky 15 (some 29) (v := ?_) rfl (by kernel_rfl) (by kernel_rfl) (by kernel_rfl) (fun _ _ _ h => h) ?_ hHeld ?_
  rotate_left
  focus (intro w hSw; go_simp; (try with_reducible rfl); done)
  go_frame
  refine rcons 19 rfl (by kernel_rfl) (fun K hK => ?_)
  go_simp
  refine hK.out _ _ trivial (fun _ => ?_)
  clear hK K
  (try go_frame)
  rotate_left
  refine acons 19 rfl (fun K hK => ?_) ?_
  go_simp
  refine hK.out _ _ trivial (fun _ => ?_)
  clear hK K
  (try go_frame)
  refine rcons 13 rfl (by kernel_rfl) (fun K hK => ?_)
  go_simp
  refine hK.out _ _ trivial (fun _ => ?_)
  clear hK K
  (try go_frame)
  refine tky 14 (some 28) (v := ?_) rfl (by kernel_rfl) (by kernel_rfl) (by kernel_rfl) (fun _ _ _ h => h) ?_ hHeld ?_
  rotate_left
  focus (intro w hSw; go_simp; (try with_reducible rfl); done)
  go_frame
  refine tky 15 (some 29) (v := ?_) rfl (by kernel_rfl) (by kernel_rfl) (by kernel_rfl) (fun _ _ _ h => h) ?_ hHeld ?_
  rotate_left
  focus (intro w hSw; go_simp; (try with_reducible rfl); done)
  go_frame
  rotate_left
  exact AllReadyH.nil
  refine acons 13 rfl (fun K hK => ?_) ?_
  go_simp
  refine hK.out _ _ trivial (fun _ => ?_)
  clear hK K
  (try go_frame)
  refine tky 14 (some 28) (v := ?_) rfl (by kernel_rfl) (by kernel_rfl) (by kernel_rfl) (fun _ _ _ h => h) ?_ hHeld ?_
  rotate_left
  focus (intro w hSw; go_simp; (try with_reducible rfl); done)
  go_frame
  refine wpAnyH_ready (rs := [4, 19]) (by kernel_rfl) (by simp) ?_
  refine acons 4 rfl (fun K hK => ?_) ?_
  go_simp
  refine hK.out _ _ trivial (fun _ => ?_)
  clear hK K
  (try go_frame)
  refine tky 15 (some 29) (v := ?_) rfl (by kernel_rfl) (by kernel_rfl) (by kernel_rfl) (fun _ _ _ h => h) ?_ hHeld ?_
  rotate_left
  focus (intro w hSw; go_simp; (try with_reducible rfl); done)
  go_frame
  refine rcons 19 rfl (by kernel_rfl) (fun K hK => ?_)
  go_simp
  refine hK.out _ _ trivial (fun _ => ?_)
  clear hK K
  (try go_frame)
  rotate_left
  refine acons 19 rfl (fun K hK => ?_) ?_
  go_simp
  refine hK.out _ _ trivial (fun _ => ?_)
  clear hK K
  (try go_frame)
  refine rcons 4 rfl (by kernel_rfl) (fun K hK => ?_)
  go_simp
  refine hK.out _ _ trivial (fun _ => ?_)
  clear hK K
  (try go_frame)
  refine tky 15 (some 29) (v := ?_) rfl (by kernel_rfl) (by kernel_rfl) (by kernel_rfl) (fun _ _ _ h => h) ?_ hHeld ?_
  rotate_left
  focus (intro w hSw; go_simp; (try with_reducible rfl); done)
  go_frame
  rotate_left
  exact AllReadyH.nil
  refine acons 19 rfl (fun K hK => ?_) ?_
  go_simp
  refine hK.out _ _ trivial (fun _ => ?_)
  clear hK K
  (try go_frame)
  refine wpAnyH_ready (rs := [4, 13]) (by kernel_rfl) (by simp) ?_
  refine acons 4 rfl (fun K hK => ?_) ?_
  go_simp
  refine hK.out _ _ trivial (fun _ => ?_)
  clear hK K
  (try go_frame)
  refine rcons 13 rfl (by kernel_rfl) (fun K hK => ?_)
  go_simp
  refine hK.out _ _ trivial (fun _ => ?_)
  clear hK K
  (try go_frame)
  refine tky 14 (some 28) (v := ?_) rfl (by kernel_rfl) (by kernel_rfl) (by kernel_rfl) (fun _ _ _ h => h) ?_ hHeld ?_
  rotate_left
  focus (intro w hSw; go_simp; (try with_reducible rfl); done)
  go_frame
  refine tky 15 (some 29) (v := ?_) rfl (by kernel_rfl) (by kernel_rfl) (by kernel_rfl) (fun _ _ _ h => h) ?_ hHeld ?_
  rotate_left
  focus (intro w hSw; go_simp; (try with_reducible rfl); done)
  go_frame
  rotate_left
  refine acons 13 rfl (fun K hK => ?_) ?_
  go_simp
  refine hK.out _ _ trivial (fun _ => ?_)
  clear hK K
  (try go_frame)
  refine tky 14 (some 28) (v := ?_) rfl (by kernel_rfl) (by kernel_rfl) (by kernel_rfl) (fun _ _ _ h => h) ?_ hHeld ?_
  rotate_left
  focus (intro w hSw; go_simp; (try with_reducible rfl); done)
  go_frame
  refine rcons 4 rfl (by kernel_rfl) (fun K hK => ?_)
  go_simp
  refine hK.out _ _ trivial (fun _ => ?_)
  clear hK K
  (try go_frame)
  refine tky 15 (some 29) (v := ?_) rfl (by kernel_rfl) (by kernel_rfl) (by kernel_rfl) (fun _ _ _ h => h) ?_ hHeld ?_
  rotate_left
  focus (intro w hSw; go_simp; (try with_reducible rfl); done)
  go_frame
  rotate_left
  exact AllReadyH.nil
  exact AllReadyH.nil
  refine acons 13 rfl (fun K hK => ?_) ?_
  go_simp
  refine hK.out _ _ trivial (fun _ => ?_)
  clear hK K
  (try go_frame)
  refine tky 14 (some 28) (v := ?_) rfl (by kernel_rfl) (by kernel_rfl) (by kernel_rfl) (fun _ _ _ h => h) ?_ hHeld ?_
  rotate_left
  focus (intro w hSw; go_simp; (try with_reducible rfl); done)
  go_frame
  refine wpAnyH_ready (rs := [4, 8, 19]) (by kernel_rfl) (by simp) ?_
  refine acons 4 rfl (fun K hK => ?_) ?_
  go_simp
  refine hK.out _ _ trivial (fun _ => ?_)
  clear hK K
  (try go_frame)
  refine wpAnyH_ready (rs := [8, 19]) (by kernel_rfl) (by simp) ?_
  refine acons 8 rfl (fun K hK => ?_) ?_
  go_simp
  refine hK.out _ _ trivial (fun _ => ?_)
  clear hK K
  (try go_frame)
  refine tky 9 (some 23) (v := ?_) rfl (by kernel_rfl) (by kernel_rfl) (by kernel_rfl) (fun _ _ _ h => h) ?_ hHeld ?_
  rotate_left
  focus (intro w hSw; go_simp; (try with_reducible rfl); done)
  go_frame
  refine tky 15 (some 29) (v := ?_) rfl (by kernel_rfl) (by kernel_rfl) (by kernel_rfl) (fun _ _ _ h => h) ?_ hHeld ?_
  rotate_left
  focus (intro w hSw; go_simp; (try with_reducible rfl); done)
  go_frame
  refine rcons 19 rfl (by kernel_rfl) (fun K hK => ?_)
  go_simp
  refine hK.out _ _ trivial (fun _ => ?_)
  clear hK K
  (try go_frame)
  rotate_left
  refine acons 19 rfl (fun K hK => ?_) ?_
  go_simp
  refine hK.out _ _ trivial (fun _ => ?_)
  clear hK K
  (try go_frame)
  refine rcons 8 rfl (by kernel_rfl) (fun K hK => ?_)
  go_simp
  refine hK.out _ _ trivial (fun _ => ?_)
  clear hK K
  (try go_frame)
  refine tky 9 (some 23) (v := ?_) rfl (by kernel_rfl) (by kernel_rfl) (by kernel_rfl) (fun _ _ _ h => h) ?_ hHeld ?_
  rotate_left
  focus (intro w hSw; go_simp; (try with_reducible rfl); done)
  go_frame
  refine tky 15 (some 29) (v := ?_) rfl (by kernel_rfl) (by kernel_rfl) (by kernel_rfl) (fun _ _ _ h => h) ?_ hHeld ?_
  rotate_left
  focus (intro w hSw; go_simp; (try with_reducible rfl); done)
  go_frame
  rotate_left
  exact AllReadyH.nil
  refine acons 8 rfl (fun K hK => ?_) ?_
  go_simp
  refine hK.out _ _ trivial (fun _ => ?_)
  clear hK K
  (try go_frame)
  refine tky 9 (some 23) (v := ?_) rfl (by kernel_rfl) (by kernel_rfl) (by kernel_rfl) (fun _ _ _ h => h) ?_ hHeld ?_
  rotate_left
  focus (intro w hSw; go_simp; (try with_reducible rfl); done)
  go_frame
  refine wpAnyH_ready (rs := [4, 19]) (by kernel_rfl) (by simp) ?_
  refine acons 4 rfl (fun K hK => ?_) ?_
  go_simp
  refine hK.out _ _ trivial (fun _ => ?_)
  clear hK K
  (try go_frame)
  refine tky 15 (some 29) (v := ?_) rfl (by kernel_rfl) (by kernel_rfl) (by kernel_rfl) (fun _ _ _ h => h) ?_ hHeld ?_
  rotate_left
  focus (intro w hSw; go_simp; (try with_reducible rfl); done)
  go_frame
  refine rcons 19 rfl (by kernel_rfl) (fun K hK => ?_)
  go_simp
  refine hK.out _ _ trivial (fun _ => ?_)
  clear hK K
  (try go_frame)
  rotate_left
  refine acons 19 rfl (fun K hK => ?_) ?_
  go_simp
  refine hK.out _ _ trivial (fun _ => ?_)
  clear hK K
  (try go_frame)
  refine rcons 4 rfl (by kernel_rfl) (fun K hK => ?_)
  go_simp
  refine hK.out _ _ trivial (fun _ => ?_)
  clear hK K
  (try go_frame)
  refine tky 15 (some 29) (v := ?_) rfl (by kernel_rfl) (by kernel_rfl) (by kernel_rfl) (fun _ _ _ h => h) ?_ hHeld ?_
  rotate_left
  focus (intro w hSw; go_simp; (try with_reducible rfl); done)
  go_frame
  rotate_left
  exact AllReadyH.nil
  refine acons 19 rfl (fun K hK => ?_) ?_
  go_simp
  refine hK.out _ _ trivial (fun _ => ?_)
  clear hK K
  (try go_frame)
  refine wpAnyH_ready (rs := [4, 8]) (by kernel_rfl) (by simp) ?_
  refine acons 4 rfl (fun K hK => ?_) ?_
  go_simp
  refine hK.out _ _ trivial (fun _ => ?_)
  clear hK K
  (try go_frame)
  refine rcons 8 rfl (by kernel_rfl) (fun K hK => ?_)
  go_simp
  refine hK.out _ _ trivial (fun _ => ?_)
  clear hK K
  (try go_frame)
  refine tky 9 (some 23) (v := ?_) rfl (by kernel_rfl) (by kernel_rfl) (by kernel_rfl) (fun _ _ _ h => h) ?_ hHeld ?_
  rotate_left
  focus (intro w hSw; go_simp; (try with_reducible rfl); done)
  go_frame
  refine tky 15 (some 29) (v := ?_) rfl (by kernel_rfl) (by kernel_rfl) (by kernel_rfl) (fun _ _ _ h => h) ?_ hHeld ?_
  rotate_left
  focus (intro w hSw; go_simp; (try with_reducible rfl); done)
  go_frame
  rotate_left
  refine acons 8 rfl (fun K hK => ?_) ?_
  go_simp
  refine hK.out _ _ trivial (fun _ => ?_)
  clear hK K
  (try go_frame)
  refine tky 9 (some 23) (v := ?_) rfl (by kernel_rfl) (by kernel_rfl) (by kernel_rfl) (fun _ _ _ h => h) ?_ hHeld ?_
  rotate_left
  focus (intro w hSw; go_simp; (try with_reducible rfl); done)
  go_frame
  refine rcons 4 rfl (by kernel_rfl) (fun K hK => ?_)
  go_simp
  refine hK.out _ _ trivial (fun _ => ?_)
  clear hK K
  (try go_frame)
  refine tky 15 (some 29) (v := ?_) rfl (by kernel_rfl) (by kernel_rfl) (by kernel_rfl) (fun _ _ _ h => h) ?_ hHeld ?_
  rotate_left
  focus (intro w hSw; go_simp; (try with_reducible rfl); done)
  go_frame
  rotate_left
  exact AllReadyH.nil
  exact AllReadyH.nil
  refine acons 19 rfl (fun K hK => ?_) ?_
  go_simp
  refine hK.out _ _ trivial (fun _ => ?_)
  clear hK K
  (try go_frame)
  refine wpAnyH_ready (rs := [4, 8, 13]) (by kernel_rfl) (by simp) ?_
  refine acons 4 rfl (fun K hK => ?_) ?_
  go_simp
  refine hK.out _ _ trivial (fun _ => ?_)
  clear hK K
  (try go_frame)
  refine wpAnyH_ready (rs := [8, 13]) (by kernel_rfl) (by simp) ?_
  refine acons 8 rfl (fun K hK => ?_) ?_
  go_simp
  refine hK.out _ _ trivial (fun _ => ?_)
  clear hK K
  (try go_frame)
  refine tky 9 (some 23) (v := ?_) rfl (by kernel_rfl) (by kernel_rfl) (by kernel_rfl) (fun _ _ _ h => h) ?_ hHeld ?_
  rotate_left
  focus (intro w hSw; go_simp; (try with_reducible rfl); done)
  go_frame
  refine rcons 13 rfl (by kernel_rfl) (fun K hK => ?_)
  go_simp
  refine hK.out _ _ trivial (fun _ => ?_)
  clear hK K
  (try go_frame)
  refine tky 14 (some 28) (v := ?_) rfl (by kernel_rfl) (by kernel_rfl) (by kernel_rfl) (fun _ _ _ h => h) ?_ hHeld ?_
  rotate_left
  focus (intro w hSw; go_simp; (try with_reducible rfl); done)
  go_frame
  refine tky 15 (some 29) (v := ?_) rfl (by kernel_rfl) (by kernel_rfl) (by kernel_rfl) (fun _ _ _ h => h) ?_ hHeld ?_
  rotate_left
  focus (intro w hSw; go_simp; (try with_reducible rfl); done)
  go_frame
  rotate_left
  refine acons 13 rfl (fun K hK => ?_) ?_
  go_simp
  refine hK.out _ _ trivial (fun _ => ?_)
  clear hK K
  (try go_frame)
  refine tky 14 (some 28) (v := ?_) rfl (by kernel_rfl) (by kernel_rfl) (by kernel_rfl) (fun _ _ _ h => h) ?_ hHeld ?_
  rotate_left
  focus (intro w hSw; go_simp; (try with_reducible rfl); done)
  go_frame
  refine rcons 8 rfl (by kernel_rfl) (fun K hK => ?_)
  go_simp
  refine hK.out _ _ trivial (fun _ => ?_)
  clear hK K
  (try go_frame)
  refine tky 9 (some 23) (v := ?_) rfl (by kernel_rfl) (by kernel_rfl) (by kernel_rfl) (fun _ _ _ h => h) ?_ hHeld ?_
  rotate_left
  focus (intro w hSw; go_simp; (try with_reducible rfl); done)
  go_frame
  refine tky 15 (some 29) (v := ?_) rfl (by kernel_rfl) (by kernel_rfl) (by kernel_rfl) (fun _ _ _ h => h) ?_ hHeld ?_
  rotate_left
  focus (intro w hSw; go_simp; (try with_reducible rfl); done)
  go_frame
  rotate_left
  exact AllReadyH.nil
  refine acons 8 rfl (fun K hK => ?_) ?_
  go_simp
  refine hK.out _ _ trivial (fun _ => ?_)
  clear hK K
  (try go_frame)
  refine tky 9 (some 23) (v := ?_) rfl (by kernel_rfl) (by kernel_rfl) (by kernel_rfl) (fun _ _ _ h => h) ?_ hHeld ?_
  rotate_left
  focus (intro w hSw; go_simp; (try with_reducible rfl); done)
  go_frame
  refine wpAnyH_ready (rs := [4, 13]) (by kernel_rfl) (by simp) ?_
  refine acons 4 rfl (fun K hK => ?_) ?_
  go_simp
  refine hK.out _ _ trivial (fun _ => ?_)
  clear hK K
  (try go_frame)
  refine rcons 13 rfl (by kernel_rfl) (fun K hK => ?_)
  go_simp
  refine hK.out _ _ trivial (fun _ => ?_)
  clear hK K
  (try go_frame)
  refine tky 14 (some 28) (v := ?_) rfl (by kernel_rfl) (by kernel_rfl) (by kernel_rfl) (fun _ _ _ h => h) ?_ hHeld ?_
  rotate_left
  focus (intro w hSw; go_simp; (try with_reducible rfl); done)
  go_frame
  refine tky 15 (some 29) (v := ?_) rfl (by kernel_rfl) (by kernel_rfl) (by kernel_rfl) (fun _ _ _ h => h) ?_ hHeld ?_
  rotate_left
  focus (intro w hSw; go_simp; (try with_reducible rfl); done)
  go_frame
  rotate_left
  refine acons 13 rfl (fun K hK => ?_) ?_
  go_simp
  refine hK.out _ _ trivial (fun _ => ?_)
  clear hK K
  (try go_frame)
  refine tky 14 (some 28) (v := ?_) rfl (by kernel_rfl) (by kernel_rfl) (by kernel_rfl) (fun _ _ _ h => h) ?_ hHeld ?_
  rotate_left
  focus (intro w hSw; go_simp; (try with_reducible rfl); done)
  go_frame
  refine rcons 4 rfl (by kernel_rfl) (fun K hK => ?_)
  go_simp
  refine hK.out _ _ trivial (fun _ => ?_)
  clear hK K
  (try go_frame)
  refine tky 15 (some 29) (v := ?_) rfl (by kernel_rfl) (by kernel_rfl) (by kernel_rfl) (fun _ _ _ h => h) ?_ hHeld ?_
  rotate_left
  focus (intro w hSw; go_simp; (try with_reducible rfl); done)
  go_frame
  rotate_left
  exact AllReadyH.nil
  refine acons 13 rfl (fun K hK => ?_) ?_
  go_simp
  refine hK.out _ _ trivial (fun _ => ?_)
  clear hK K
  (try go_frame)
  refine tky 14 (some 28) (v := ?_) rfl (by kernel_rfl) (by kernel_rfl) (by kernel_rfl) (fun _ _ _ h => h) ?_ hHeld ?_
  rotate_left
  focus (intro w hSw; go_simp; (try with_reducible rfl); done)
  go_frame
  refine wpAnyH_ready (rs := [4, 8]) (by kernel_rfl) (by simp) ?_
  refine acons 4 rfl (fun K hK => ?_) ?_
  go_simp
  refine hK.out _ _ trivial (fun _ => ?_)
  clear hK K
  (try go_frame)
  refine rcons 8 rfl (by kernel_rfl) (fun K hK => ?_)
  go_simp
  refine hK.out _ _ trivial (fun _ => ?_)
  clear hK K
  (try go_frame)
  refine tky 9 (some 23) (v := ?_) rfl (by kernel_rfl) (by kernel_rfl) (by kernel_rfl) (fun _ _ _ h => h) ?_ hHeld ?_
  rotate_left
  focus (intro w hSw; go_simp; (try with_reducible rfl); done)
  go_frame
  refine tky 15 (some 29) (v := ?_) rfl (by kernel_rfl) (by kernel_rfl) (by kernel_rfl) (fun _ _ _ h => h) ?_ hHeld ?_
  rotate_left
  focus (intro w hSw; go_simp; (try with_reducible rfl); done)
  go_frame
  rotate_left
  refine acons 8 rfl (fun K hK => ?_) ?_
  go_simp
  refine hK.out _ _ trivial (fun _ => ?_)
  clear hK K
  (try go_frame)
  refine tky 9 (some 23) (v := ?_) rfl (by kernel_rfl) (by kernel_rfl) (by kernel_rfl) (fun _ _ _ h => h) ?_ hHeld ?_
  rotate_left
  focus (intro w hSw; go_simp; (try with_reducible rfl); done)
  go_frame
  refine rcons 4 rfl (by kernel_rfl) (fun K hK => ?_)
  go_simp
  refine hK.out _ _ trivial (fun _ => ?_)
  clear hK K
  (try go_frame)
  refine tky 15 (some 29) (v := ?_) rfl (by kernel_rfl) (by kernel_rfl) (by kernel_rfl) (fun _ _ _ h => h) ?_ hHeld ?_
  rotate_left
  focus (intro w hSw; go_simp; (try with_reducible rfl); done)
  go_frame
  rotate_left
  exact AllReadyH.nil
  exact AllReadyH.nil
  exact AllReadyH.nil
  all_goals
    refine rcons 20 rfl (by kernel_rfl) (fun K hK => ?_)
    rw [if_pos]
    rotate_left
    focus kernel_rfl
    refine wp_appendN _ _ rfl none 0 L HN.out rfl (by exact HSD.out) W.heap.size 1 ⟨k, s.data.toList, 0⟩ rfl (by exact HNEW.out) (by omega) ?_
    intro v' y6 hown hgrow
    obtain ⟨⟨c6, f6⟩, hfin⟩ := HFIN.out v' y6 hown hgrow
    obtain ⟨g6, n6, cap6, rfl, -, -, -⟩ := hown.formU (by simp)
    clear hown hgrow
    (try dsimp only)
    refine hK.out _ _ trivial (fun _ => ?_)
    clear hK K
    (try go_frame)
    refine tky 21 (some 35) (v := ?_) rfl (by kernel_rfl) (by kernel_rfl) (by kernel_rfl) (fun _ _ _ h => h) ?_ hHeld ?_
    rotate_left
    focus (intro w hSw; go_simp; (try with_reducible rfl); done)
    go_frame
    refine tky 22 (some 36) (v := ?_) rfl (by kernel_rfl) (by kernel_rfl) (by kernel_rfl) (fun _ _ _ h => h) ?_ hHeld ?_
    rotate_left
    focus (intro w hSw; go_simp; (try with_reducible rfl); done)
    go_frame
    refine rcons 23 rfl (by kernel_rfl) (fun K hK => ?_)
    go_simp
    refine hK.out _ _ trivial (fun _ => ?_)
    clear hK K
    (try go_frame)
    refine wpAnyH_done (by kernel_rfl) ?_ _
    go_wp2_with fail
    rw [rounds_succ]
    go_wp2_with fail
    go_end0
    exact ⟨rfl, ⟨_, hfin.1⟩, hfin.2⟩
end Go.Proofs.YtbejhdhhkpllfaaGreatDoor
namespace Go.Proofs.YtbejhdhhkpllfaaGreatDoor
open Go.RowKit
/-- What a variable holds, it holds behind a call that only makes blocks. -/
theorem var_stays_w {P : Program} {w w' : World} {n : String} {cs : Array Value} (hv : w.var? P n = some cs) (hb : Below w.heap.size w w') : w'.var? P n = some cs := by
  unfold World.var? at hv
  obtain ⟨g, hg, h2⟩ := Option.bind_eq_some_iff.1 hv
  have hlt : g < w.heap.size := by
    rcases Nat.lt_or_ge g w.heap.size with h | h
    · exact h
    · rw [Array.getElem?_eq_none h] at h2; cases h2
  unfold World.var?
  rw [hg]
  simp only [Option.bind_some]
  rw [hb.block g hlt]; exact h2
/-- What the library's table of powers holds. -/
def EnvT (w : World) : Prop := Lib.TabIs Tryz.prog w "internal/strconv.uint64pow10" .u64 Lib.pow10Tab
theorem below_grow (w : World) (k : Nat) (os : Array Obj) : Below w.heap.size w (Go.Sort.grow (w.drewN k) os) := by
  refine ⟨rfl, rfl, rfl, by show w.heap.size ≤ ((w.drewN k).heap ++ os).size; rw [Array.size_append]; exact Nat.le_add_right _ _, fun i hi => ?_⟩
  show ((w.drewN k).heap ++ os)[i]? = w.heap[i]?
  rw [Array.getElem?_append_left (show i < (w.drewN k).heap.size from hi)]; rfl
theorem EnvT.stays {w w' : World} (h : EnvT w) (hb : Below w.heap.size w w') : EnvT w' := var_stays_w h hb
set_option maxHeartbeats 400000 in
theorem write_tab (n : Int) (hr : R n) (w : World) (ht : EnvT w) :
    Calls Tryz.prog 75 #[.int .i64 n] w fun e w' => e = .returned (.string ⟨(Lib.itoa n).toArray⟩) ∧ Below w.heap.size w w' := by
  have HT := Lib.hid ht
  clear ht
  go_enter Tryz.func75, Tryz.ntmps75
  go_wp2_with fail
  refine (Tryz.strconv_FormatInt_10 n hr.1 hr.2 _ HT.out).mono ?_; rintro e w1 ⟨rfl, k, os, rfl⟩
  go_wp2_with fail
  go_ret
  exact ⟨rfl, below_grow _ _ _⟩
end Go.Proofs.YtbejhdhhkpllfaaGreatDoor
namespace Go.Proofs.YtbejhdhhkpllfaaGreatDoor
open Go.RowKit
theorem put_add (q : Nat) (v : Value) (L : List Tok) (k : UInt8) (kd : Int) (hkd : (k.toNat : Int) = kd) (s : ByteArray) (lb cl : Nat) (W : World) (h : PutS q v L W) (hl : W.cell? ⟨lb, 0, none⟩ = some (.string s)) (hlb : lb ≠ q) (hL : L.length ≤ 100000) :
    Calls Tryz.prog 58 #[.pointer (some ⟨q, 0, none⟩), .int .u8 kd, .slice (some ⟨lb, 0, none⟩) 1 cl] W fun x W' => x = .returned (.tuple #[]) ∧ (∃ v', PutS q v' (L ++ [⟨k, s.data.toList, 0⟩]) W') ∧ RK q W W' := by
  subst hkd
  have h2 := h
  obtain ⟨h1, hn, hr⟩ := h
  rcases hr with ⟨rfl, e⟩ | ⟨g, cap, cur, rfl, hB, hg, hcap, hrest⟩
  · exact put_add_none q none 0 0 L k s lb cl W ⟨rfl, rfl, rfl⟩ e.symm (Nat.le_refl _) h2 hl hlb hL
  · exact put_add_some q (some ⟨g, 0, none⟩) L.length cap L k s lb cl W ⟨g, rfl⟩ rfl hcap h2 hl hlb hL
theorem PutS.rk {p q : Nat} {v : Value} {L : List Tok} {W W' : World} (h : PutS q v L W) (hb : Below W.heap.size W W') : PutS q v L W' := h.below hb
theorem CelRow.rk {b off p : Nat} {V : List Cel} {W W' : World} (h : CelRow b off V W) (hk : RK p W W') (hne : b ≠ p) : CelRow b off V W' := by
  intro i hi
  obtain ⟨h0, h1, h2, h3, h4⟩ := h i hi
  have hb : W'.heap[b]? = W.heap[b]? := by
    have hlt := lt_of_cell h0
    obtain ⟨o, ho⟩ : ∃ o, W.heap[b]? = some o := ⟨_, Array.getElem?_eq_getElem hlt⟩
    rw [ho]; exact hk.2 b o ho hne
  refine ⟨?_, ?_, ?_, ?_, ?_⟩
  · rw [← h0]; unfold World.cell?; rw [hb]
  · rw [← h1]; unfold World.cell?; rw [hb]
  · rw [← h2]; unfold World.cell?; rw [hb]
  · rw [← h3]; unfold World.cell?; rw [hb]
  · rw [← h4]; unfold World.cell?; rw [hb]
/-- What a putting leaves: the place behind; its tokens behind those that were there. -/
def PEnd (q : Nat) (L : List Tok) (n : Int) (W : World) (e : Ending) (W' : World) : Prop := e = .returned (.int .i64 n) ∧ (∃ v', PutS q v' L W') ∧ RK q W W'
theorem rk_below {q : Nat} {W W' : World} (hb : Below W.heap.size W W') (hq : q ≤ W.heap.size) : RK q W W' := ⟨hb.mono hq, fun k o hk _ => (hb.block k (heap_lt hk)).trans hk⟩
set_option maxRecDepth 100000 in
set_option maxHeartbeats 1000000 in
theorem up_null (q b off nV cap k : Nat) (pv : Value) (L : List Tok) (W : World) (kk : Nat) (nx tx : ByteArray) (nu mn : Int) (hP : PutS q pv L W)
    (hk : k < nV) (hl : nV ≤ 2048) (hL : L.length + 8 ≤ 100000)
    (c0 : W.cell? ⟨b, off + k * 5, none⟩ = some (.int .u8 (kk : Int))) (c1 : W.cell? ⟨b, off + k * 5 + 1, none⟩ = some (.string nx)) (c2 : W.cell? ⟨b, off + k * 5 + 2, none⟩ = some (.string tx)) (c3 : W.cell? ⟨b, off + k * 5 + 3, none⟩ = some (.int .i64 nu)) (c4 : W.cell? ⟨b, off + k * 5 + 4, none⟩ = some (.int .i64 mn))
    (h0 : kk = 0)  :
    Calls Tryz.prog 61 #[.pointer (some ⟨q, 0, none⟩), .slice (some ⟨b, off, none⟩) nV cap, .int .i64 (k : Int)] W fun e w' => PEnd q (L ++ [nmT [110, 117, 108, 108]]) ((k : Int) + 1) W e w' := by
  have hq := hP.lt
  have hk1 : IntKind.i64.wrap ((k : Int) + 1) = (k : Int) + 1 := IntWalk.i64_in _ (by omega)
  have hk2 : (k : Int).toNat = k := by omega
  have hk3 : (0 : Int) ≤ (k : Int) := by omega
  have hk4 : (k : Int) < (nV : Int) := by omega
  have HP := Lib.hid hP
  clear hP
  subst h0
  have hb1 : Below W.heap.size W ((W.alloc (.cells #[.int .u8 0, .string nx, .string tx, .int .i64 nu, .int .i64 mn] 59)).alloc (.cells #[.string ⟨#[110, 117, 108, 108]⟩] 9)) := ((Below.refl _ _).alloc (Nat.le_refl _) _).alloc (by simp) _
  have HP1 := Lib.hid (HP.out.below hb1)
  have HK1 : Hid (RK q W _) := Lib.hid (rk_below hb1 (Nat.le_of_lt hq))
  have hne : W.heap.size + 1 ≠ q := by omega
  have hl1 : ((W.alloc (.cells #[.int .u8 0, .string nx, .string tx, .int .i64 nu, .int .i64 mn] 59)).alloc (.cells #[.string ⟨#[110, 117, 108, 108]⟩] 9)).cell? ⟨W.heap.size + 1, 0, none⟩ = some (.string ⟨#[110, 117, 108, 108]⟩) := Lib.cell_of_heap (heap_new _ _ _ (by simp)) 0
  clear hb1
  go_enter Tryz.func61, Tryz.ntmps61
  go_wp2_with fail
  refine (put_add q pv L 1 1 rfl ⟨#[110, 117, 108, 108]⟩ _ 1 _ HP1.out hl1 hne (by omega)).mono ?_; rintro e wx ⟨rfl, hx1, hx2⟩
  have HFIN : Hid ((∃ v', PutS q v' (L ++ [nmT [110, 117, 108, 108]]) wx) ∧ RK q W wx) := Lib.hid ⟨hx1, HK1.out.trans hx2⟩
  clear hx1 hx2
  go_wp2_with fail
  go_ret
  exact ⟨rfl, HFIN.out⟩
set_option maxRecDepth 100000 in
set_option maxHeartbeats 1000000 in
theorem up_true (q b off nV cap k : Nat) (pv : Value) (L : List Tok) (W : World) (kk : Nat) (nx tx : ByteArray) (nu mn : Int) (hP : PutS q pv L W)
    (hk : k < nV) (hl : nV ≤ 2048) (hL : L.length + 8 ≤ 100000)
    (c0 : W.cell? ⟨b, off + k * 5, none⟩ = some (.int .u8 (kk : Int))) (c1 : W.cell? ⟨b, off + k * 5 + 1, none⟩ = some (.string nx)) (c2 : W.cell? ⟨b, off + k * 5 + 2, none⟩ = some (.string tx)) (c3 : W.cell? ⟨b, off + k * 5 + 3, none⟩ = some (.int .i64 nu)) (c4 : W.cell? ⟨b, off + k * 5 + 4, none⟩ = some (.int .i64 mn))
    (h0 : kk = 1) (h1 : nu = 1) :
    Calls Tryz.prog 61 #[.pointer (some ⟨q, 0, none⟩), .slice (some ⟨b, off, none⟩) nV cap, .int .i64 (k : Int)] W fun e w' => PEnd q (L ++ [nmT [116, 114, 117, 101]]) ((k : Int) + 1) W e w' := by
  have hq := hP.lt
  have hk1 : IntKind.i64.wrap ((k : Int) + 1) = (k : Int) + 1 := IntWalk.i64_in _ (by omega)
  have hk2 : (k : Int).toNat = k := by omega
  have hk3 : (0 : Int) ≤ (k : Int) := by omega
  have hk4 : (k : Int) < (nV : Int) := by omega
  have HP := Lib.hid hP
  clear hP
  subst h0
  subst h1
  have ix := fun w : World => (show (Instr.index 114 (.agg #[.string ⟨#[102, 97, 108, 115, 101]⟩, .string ⟨#[116, 114, 117, 101]⟩]) (.int .i64 1)).run Tryz.prog w = .ok (.string ⟨#[116, 114, 117, 101]⟩) w by kernel_rfl)
  have hb1 : Below W.heap.size W ((W.alloc (.cells #[.int .u8 1, .string nx, .string tx, .int .i64 1, .int .i64 mn] 59)).alloc (.cells #[.string ⟨#[116, 114, 117, 101]⟩] 9)) := ((Below.refl _ _).alloc (Nat.le_refl _) _).alloc (by simp) _
  have HP1 := Lib.hid (HP.out.below hb1)
  have HK1 : Hid (RK q W _) := Lib.hid (rk_below hb1 (Nat.le_of_lt hq))
  have hne : W.heap.size + 1 ≠ q := by omega
  have hl1 : ((W.alloc (.cells #[.int .u8 1, .string nx, .string tx, .int .i64 1, .int .i64 mn] 59)).alloc (.cells #[.string ⟨#[116, 114, 117, 101]⟩] 9)).cell? ⟨W.heap.size + 1, 0, none⟩ = some (.string ⟨#[116, 114, 117, 101]⟩) := Lib.cell_of_heap (heap_new _ _ _ (by simp)) 0
  clear hb1
  go_enter Tryz.func61, Tryz.ntmps61
  go_wp2_with fail
  refine (put_add q pv L 1 1 rfl ⟨#[116, 114, 117, 101]⟩ _ 1 _ HP1.out hl1 hne (by omega)).mono ?_; rintro e wx ⟨rfl, hx1, hx2⟩
  have HFIN : Hid ((∃ v', PutS q v' (L ++ [nmT [116, 114, 117, 101]]) wx) ∧ RK q W wx) := Lib.hid ⟨hx1, HK1.out.trans hx2⟩
  clear hx1 hx2
  go_wp2_with fail
  go_ret
  exact ⟨rfl, HFIN.out⟩
set_option maxRecDepth 100000 in
set_option maxHeartbeats 1000000 in
theorem up_false (q b off nV cap k : Nat) (pv : Value) (L : List Tok) (W : World) (kk : Nat) (nx tx : ByteArray) (nu mn : Int) (hP : PutS q pv L W)
    (hk : k < nV) (hl : nV ≤ 2048) (hL : L.length + 8 ≤ 100000)
    (c0 : W.cell? ⟨b, off + k * 5, none⟩ = some (.int .u8 (kk : Int))) (c1 : W.cell? ⟨b, off + k * 5 + 1, none⟩ = some (.string nx)) (c2 : W.cell? ⟨b, off + k * 5 + 2, none⟩ = some (.string tx)) (c3 : W.cell? ⟨b, off + k * 5 + 3, none⟩ = some (.int .i64 nu)) (c4 : W.cell? ⟨b, off + k * 5 + 4, none⟩ = some (.int .i64 mn))
    (h0 : kk = 1) (h1 : nu = 0) :
    Calls Tryz.prog 61 #[.pointer (some ⟨q, 0, none⟩), .slice (some ⟨b, off, none⟩) nV cap, .int .i64 (k : Int)] W fun e w' => PEnd q (L ++ [nmT [102, 97, 108, 115, 101]]) ((k : Int) + 1) W e w' := by
  have hq := hP.lt
  have hk1 : IntKind.i64.wrap ((k : Int) + 1) = (k : Int) + 1 := IntWalk.i64_in _ (by omega)
  have hk2 : (k : Int).toNat = k := by omega
  have hk3 : (0 : Int) ≤ (k : Int) := by omega
  have hk4 : (k : Int) < (nV : Int) := by omega
  have HP := Lib.hid hP
  clear hP
  subst h0
  subst h1
  have ix := fun w : World => (show (Instr.index 114 (.agg #[.string ⟨#[102, 97, 108, 115, 101]⟩, .string ⟨#[116, 114, 117, 101]⟩]) (.int .i64 0)).run Tryz.prog w = .ok (.string ⟨#[102, 97, 108, 115, 101]⟩) w by kernel_rfl)
  have hb1 : Below W.heap.size W ((W.alloc (.cells #[.int .u8 1, .string nx, .string tx, .int .i64 0, .int .i64 mn] 59)).alloc (.cells #[.string ⟨#[102, 97, 108, 115, 101]⟩] 9)) := ((Below.refl _ _).alloc (Nat.le_refl _) _).alloc (by simp) _
  have HP1 := Lib.hid (HP.out.below hb1)
  have HK1 : Hid (RK q W _) := Lib.hid (rk_below hb1 (Nat.le_of_lt hq))
  have hne : W.heap.size + 1 ≠ q := by omega
  have hl1 : ((W.alloc (.cells #[.int .u8 1, .string nx, .string tx, .int .i64 0, .int .i64 mn] 59)).alloc (.cells #[.string ⟨#[102, 97, 108, 115, 101]⟩] 9)).cell? ⟨W.heap.size + 1, 0, none⟩ = some (.string ⟨#[102, 97, 108, 115, 101]⟩) := Lib.cell_of_heap (heap_new _ _ _ (by simp)) 0
  clear hb1
  go_enter Tryz.func61, Tryz.ntmps61
  go_wp2_with fail
  refine (put_add q pv L 1 1 rfl ⟨#[102, 97, 108, 115, 101]⟩ _ 1 _ HP1.out hl1 hne (by omega)).mono ?_; rintro e wx ⟨rfl, hx1, hx2⟩
  have HFIN : Hid ((∃ v', PutS q v' (L ++ [nmT [102, 97, 108, 115, 101]]) wx) ∧ RK q W wx) := Lib.hid ⟨hx1, HK1.out.trans hx2⟩
  clear hx1 hx2
  go_wp2_with fail
  go_ret
  exact ⟨rfl, HFIN.out⟩
set_option maxRecDepth 100000 in
set_option maxHeartbeats 1000000 in
theorem up_text (q b off nV cap k : Nat) (pv : Value) (L : List Tok) (W : World) (kk : Nat) (nx tx : ByteArray) (nu mn : Int) (hP : PutS q pv L W)
    (hk : k < nV) (hl : nV ≤ 2048) (hL : L.length + 8 ≤ 100000)
    (c0 : W.cell? ⟨b, off + k * 5, none⟩ = some (.int .u8 (kk : Int))) (c1 : W.cell? ⟨b, off + k * 5 + 1, none⟩ = some (.string nx)) (c2 : W.cell? ⟨b, off + k * 5 + 2, none⟩ = some (.string tx)) (c3 : W.cell? ⟨b, off + k * 5 + 3, none⟩ = some (.int .i64 nu)) (c4 : W.cell? ⟨b, off + k * 5 + 4, none⟩ = some (.int .i64 mn))
    (h0 : kk = 3) :
    Calls Tryz.prog 61 #[.pointer (some ⟨q, 0, none⟩), .slice (some ⟨b, off, none⟩) nV cap, .int .i64 (k : Int)] W fun e w' => PEnd q (L ++ [⟨3, tx.data.toList, 0⟩]) ((k : Int) + 1) W e w' := by
  have hq := hP.lt
  have hk1 : IntKind.i64.wrap ((k : Int) + 1) = (k : Int) + 1 := IntWalk.i64_in _ (by omega)
  have hk2 : (k : Int).toNat = k := by omega
  have hk3 : (0 : Int) ≤ (k : Int) := by omega
  have hk4 : (k : Int) < (nV : Int) := by omega
  have HP := Lib.hid hP
  clear hP
  subst h0
  have hb1 : Below W.heap.size W ((W.alloc (.cells #[.int .u8 3, .string nx, .string tx, .int .i64 nu, .int .i64 mn] 59)).alloc (.cells #[.string tx] 9)) := ((Below.refl _ _).alloc (Nat.le_refl _) _).alloc (by simp) _
  have HP1 := Lib.hid (HP.out.below hb1)
  have HK1 : Hid (RK q W _) := Lib.hid (rk_below hb1 (Nat.le_of_lt hq))
  have hne : W.heap.size + 1 ≠ q := by omega
  have hl1 : ((W.alloc (.cells #[.int .u8 3, .string nx, .string tx, .int .i64 nu, .int .i64 mn] 59)).alloc (.cells #[.string tx] 9)).cell? ⟨W.heap.size + 1, 0, none⟩ = some (.string tx) := Lib.cell_of_heap (heap_new _ _ _ (by simp)) 0
  clear hb1
  go_enter Tryz.func61, Tryz.ntmps61
  go_wp2_with fail
  refine (put_add q pv L 3 3 rfl tx _ 1 _ HP1.out hl1 hne (by omega)).mono ?_; rintro e wx ⟨rfl, hx1, hx2⟩
  have HFIN : Hid ((∃ v', PutS q v' (L ++ [⟨3, tx.data.toList, 0⟩]) wx) ∧ RK q W wx) := Lib.hid ⟨hx1, HK1.out.trans hx2⟩
  clear hx1 hx2
  go_wp2_with fail
  go_ret
  exact ⟨rfl, HFIN.out⟩
set_option maxRecDepth 100000 in
set_option maxHeartbeats 1000000 in
theorem up_enum (q b off nV cap k : Nat) (pv : Value) (L : List Tok) (W : World) (kk : Nat) (nx tx : ByteArray) (nu mn : Int) (hP : PutS q pv L W)
    (hk : k < nV) (hl : nV ≤ 2048) (hL : L.length + 8 ≤ 100000)
    (c0 : W.cell? ⟨b, off + k * 5, none⟩ = some (.int .u8 (kk : Int))) (c1 : W.cell? ⟨b, off + k * 5 + 1, none⟩ = some (.string nx)) (c2 : W.cell? ⟨b, off + k * 5 + 2, none⟩ = some (.string tx)) (c3 : W.cell? ⟨b, off + k * 5 + 3, none⟩ = some (.int .i64 nu)) (c4 : W.cell? ⟨b, off + k * 5 + 4, none⟩ = some (.int .i64 mn))
    (h0 : kk = 4) :
    Calls Tryz.prog 61 #[.pointer (some ⟨q, 0, none⟩), .slice (some ⟨b, off, none⟩) nV cap, .int .i64 (k : Int)] W fun e w' => PEnd q (L ++ [⟨1, tx.data.toList, 0⟩]) ((k : Int) + 1) W e w' := by
  have hq := hP.lt
  have hk1 : IntKind.i64.wrap ((k : Int) + 1) = (k : Int) + 1 := IntWalk.i64_in _ (by omega)
  have hk2 : (k : Int).toNat = k := by omega
  have hk3 : (0 : Int) ≤ (k : Int) := by omega
  have hk4 : (k : Int) < (nV : Int) := by omega
  have HP := Lib.hid hP
  clear hP
  subst h0
  have hb1 : Below W.heap.size W ((W.alloc (.cells #[.int .u8 4, .string nx, .string tx, .int .i64 nu, .int .i64 mn] 59)).alloc (.cells #[.string tx] 9)) := ((Below.refl _ _).alloc (Nat.le_refl _) _).alloc (by simp) _
  have HP1 := Lib.hid (HP.out.below hb1)
  have HK1 : Hid (RK q W _) := Lib.hid (rk_below hb1 (Nat.le_of_lt hq))
  have hne : W.heap.size + 1 ≠ q := by omega
  have hl1 : ((W.alloc (.cells #[.int .u8 4, .string nx, .string tx, .int .i64 nu, .int .i64 mn] 59)).alloc (.cells #[.string tx] 9)).cell? ⟨W.heap.size + 1, 0, none⟩ = some (.string tx) := Lib.cell_of_heap (heap_new _ _ _ (by simp)) 0
  clear hb1
  go_enter Tryz.func61, Tryz.ntmps61
  go_wp2_with fail
  refine (put_add q pv L 1 1 rfl tx _ 1 _ HP1.out hl1 hne (by omega)).mono ?_; rintro e wx ⟨rfl, hx1, hx2⟩
  have HFIN : Hid ((∃ v', PutS q v' (L ++ [⟨1, tx.data.toList, 0⟩]) wx) ∧ RK q W wx) := Lib.hid ⟨hx1, HK1.out.trans hx2⟩
  clear hx1 hx2
  go_wp2_with fail
  go_ret
  exact ⟨rfl, HFIN.out⟩
set_option maxRecDepth 100000 in
set_option maxHeartbeats 1000000 in
theorem up_int (q b off nV cap k : Nat) (pv : Value) (L : List Tok) (W : World) (kk : Nat) (nx tx : ByteArray) (nu mn : Int) (hP : PutS q pv L W)
    (hk : k < nV) (hl : nV ≤ 2048) (hL : L.length + 8 ≤ 100000)
    (c0 : W.cell? ⟨b, off + k * 5, none⟩ = some (.int .u8 (kk : Int))) (c1 : W.cell? ⟨b, off + k * 5 + 1, none⟩ = some (.string nx)) (c2 : W.cell? ⟨b, off + k * 5 + 2, none⟩ = some (.string tx)) (c3 : W.cell? ⟨b, off + k * 5 + 3, none⟩ = some (.int .i64 nu)) (c4 : W.cell? ⟨b, off + k * 5 + 4, none⟩ = some (.int .i64 mn))
    (h0 : kk = 2) (HQ : Hid (∀ W' : World, Below W.heap.size W W' → Calls Tryz.prog 75 #[.int .i64 nu] W' fun e w' => e = .returned (.string ⟨(Lib.itoa nu).toArray⟩) ∧ Below W'.heap.size W' w')) :
    Calls Tryz.prog 61 #[.pointer (some ⟨q, 0, none⟩), .slice (some ⟨b, off, none⟩) nV cap, .int .i64 (k : Int)] W fun e w' => PEnd q (L ++ [⟨2, Lib.itoa nu, 0⟩]) ((k : Int) + 1) W e w' := by
  have hq := hP.lt
  have hk1 : IntKind.i64.wrap ((k : Int) + 1) = (k : Int) + 1 := IntWalk.i64_in _ (by omega)
  have hk2 : (k : Int).toNat = k := by omega
  have hk3 : (0 : Int) ≤ (k : Int) := by omega
  have hk4 : (k : Int) < (nV : Int) := by omega
  have HP := Lib.hid hP
  clear hP
  subst h0
  obtain ⟨ib, hib⟩ : ∃ ib : ByteArray, (⟨(Lib.itoa nu).toArray⟩ : ByteArray) = ib := ⟨_, rfl⟩
  have hid1 : ib.data.toList = Lib.itoa nu := by rw [← hib]
  rw [hib] at HQ
  rw [← hid1]
  clear hib hid1
  have hb1 : Below W.heap.size W (W.alloc (.cells #[.int .u8 2, .string nx, .string tx, .int .i64 nu, .int .i64 mn] 59)) := ((Below.refl _ _).alloc (Nat.le_refl _) _)
  have HB1 := Lib.hid hb1
  clear hb1
  go_enter Tryz.func61, Tryz.ntmps61
  go_wp2_with fail
  refine (HQ.out _ HB1.out).mono ?_; rintro e w1 ⟨rfl, hb⟩
  have hb2 : Below W.heap.size W (w1.alloc (.cells #[.string ib] 9)) := (HB1.out.trans (hb.mono HB1.out.size)).alloc (Nat.le_trans HB1.out.size hb.size) _
  have HP1 := Lib.hid (HP.out.below hb2)
  have HK1 : Hid (RK q W _) := Lib.hid (rk_below hb2 (Nat.le_of_lt hq))
  have hne : w1.heap.size ≠ q := by have := HB1.out.size; have := hb.size; omega
  clear hb hb2
  go_wp2_with fail
  refine (put_add q pv L 2 2 rfl ib _ 1 _ HP1.out (new_cell0 _ _ _) hne (by omega)).mono ?_; rintro e wx ⟨rfl, hx1, hx2⟩
  have HFIN : Hid ((∃ v', PutS q v' (L ++ [⟨2, ib.data.toList, 0⟩]) wx) ∧ RK q W wx) := Lib.hid ⟨hx1, HK1.out.trans hx2⟩
  clear hx1 hx2
  go_wp2_with fail
  go_ret
  exact ⟨rfl, HFIN.out⟩
set_option maxRecDepth 100000 in
set_option maxHeartbeats 1000000 in
theorem up_var (q b off nV cap k : Nat) (pv : Value) (L : List Tok) (W : World) (kk : Nat) (nx tx : ByteArray) (nu mn : Int) (hP : PutS q pv L W)
    (hk : k < nV) (hl : nV ≤ 2048) (hL : L.length + 8 ≤ 100000)
    (c0 : W.cell? ⟨b, off + k * 5, none⟩ = some (.int .u8 (kk : Int))) (c1 : W.cell? ⟨b, off + k * 5 + 1, none⟩ = some (.string nx)) (c2 : W.cell? ⟨b, off + k * 5 + 2, none⟩ = some (.string tx)) (c3 : W.cell? ⟨b, off + k * 5 + 3, none⟩ = some (.int .i64 nu)) (c4 : W.cell? ⟨b, off + k * 5 + 4, none⟩ = some (.int .i64 mn))
    (h0 : kk = 5) :
    Calls Tryz.prog 61 #[.pointer (some ⟨q, 0, none⟩), .slice (some ⟨b, off, none⟩) nV cap, .int .i64 (k : Int)] W fun e w' => PEnd q (L ++ [mkT [36], nmT tx.data.toList]) ((k : Int) + 1) W e w' := by
  have hq := hP.lt
  have hk1 : IntKind.i64.wrap ((k : Int) + 1) = (k : Int) + 1 := IntWalk.i64_in _ (by omega)
  have hk2 : (k : Int).toNat = k := by omega
  have hk3 : (0 : Int) ≤ (k : Int) := by omega
  have hk4 : (k : Int) < (nV : Int) := by omega
  have HP := Lib.hid hP
  clear hP
  subst h0
  have hb1 : Below W.heap.size W ((W.alloc (.cells #[.int .u8 5, .string nx, .string tx, .int .i64 nu, .int .i64 mn] 59)).alloc (.cells #[.string ⟨#[36]⟩] 9)) := ((Below.refl _ _).alloc (Nat.le_refl _) _).alloc (by simp) _
  have HP1 := Lib.hid (HP.out.below hb1)
  have HK1 : Hid (RK q W _) := Lib.hid (rk_below hb1 (Nat.le_of_lt hq))
  have hne : W.heap.size + 1 ≠ q := by omega
  have hl1 : ((W.alloc (.cells #[.int .u8 5, .string nx, .string tx, .int .i64 nu, .int .i64 mn] 59)).alloc (.cells #[.string ⟨#[36]⟩] 9)).cell? ⟨W.heap.size + 1, 0, none⟩ = some (.string ⟨#[36]⟩) := Lib.cell_of_heap (heap_new _ _ _ (by simp)) 0
  have HC1 : Hid (((W.alloc (.cells #[.int .u8 5, .string nx, .string tx, .int .i64 nu, .int .i64 mn] 59)).alloc (.cells #[.string ⟨#[36]⟩] 9)).heap[W.heap.size]? = some (.cells #[.int .u8 5, .string nx, .string tx, .int .i64 nu, .int .i64 mn] 59 (0, 0))) := Lib.hid (heap_old (heap_new _ _ _ rfl))
  clear hb1
  go_enter Tryz.func61, Tryz.ntmps61
  go_wp2_with fail
  refine (put_add q pv L 4 4 rfl ⟨#[36]⟩ _ 1 _ HP1.out hl1 hne (by omega)).mono ?_; rintro e w2 ⟨rfl, ⟨pv2, hx1⟩, hx2⟩
  have HC2 := Lib.hid (hx2.2 _ _ HC1.out (by omega))
  have e2 : w2.cell? ⟨W.heap.size, 2, none⟩ = some (.string tx) := by rw [Lib.cell_of_heap HC2.out]; rfl
  have hb2 : Below w2.heap.size w2 (w2.alloc (.cells #[.string tx] 9)) := ((Below.refl _ _).alloc (Nat.le_refl _) _)
  have HP2 := Lib.hid (hx1.below hb2)
  have hq2 := hx1.lt
  have HK2 : Hid (RK q W (w2.alloc (.cells #[.string tx] 9))) := Lib.hid ((HK1.out.trans hx2).trans (rk_below hb2 (Nat.le_of_lt hq2)))
  have hne2 : w2.heap.size ≠ q := by omega
  clear hx1 hx2 hb2
  go_wp2_with fail
  refine (put_add q pv2 _ 1 1 rfl tx _ 1 _ HP2.out (new_cell0 _ _ _) hne2 (by simp; omega)).mono ?_; rintro e wx ⟨rfl, hx1, hx2⟩
  have HFIN : Hid ((∃ v', PutS q v' (L ++ [mkT [36], nmT tx.data.toList]) wx) ∧ RK q W wx) := Lib.hid ⟨by simpa [mkT, nmT] using hx1, HK2.out.trans hx2⟩
  clear hx1 hx2
  go_wp2_with fail
  go_ret
  exact ⟨rfl, HFIN.out⟩
end Go.Proofs.YtbejhdhhkpllfaaGreatDoor
namespace Go.Proofs.YtbejhdhhkpllfaaGreatDoor
open Go.RowKit
set_option maxRecDepth 100000 in
set_option maxHeartbeats 4000000 in
theorem up_list (q b off cap k : Nat) (V : List Cel) (pv : Value) (L : List Tok) (W : World) (nx tx : ByteArray) (nu : Int) (m : Nat) (hP : PutS q pv L W)
    (hk : k < V.length) (hl : V.length ≤ 2048) (hrow : CelRow b off V W) (hbq : b < q)
    (c0 : W.cell? ⟨b, off + k * 5, none⟩ = some (.int .u8 6)) (c1 : W.cell? ⟨b, off + k * 5 + 1, none⟩ = some (.string nx)) (c2 : W.cell? ⟨b, off + k * 5 + 2, none⟩ = some (.string tx)) (c3 : W.cell? ⟨b, off + k * 5 + 3, none⟩ = some (.int .i64 nu)) (c4 : W.cell? ⟨b, off + k * 5 + 4, none⟩ = some (.int .i64 (m : Int)))
    (hmx : (m : Int) ≤ 9223372036854775807) (d1 n : Nat) (hkids : KS V d1 k true (some n) m [] 0) (hroom : L.length + 4 * (n + 2) ≤ 90000)
    (HTL : Hid (∀ (p n1 : Nat), valN d1 (V.drop p) = some n1 → (tokK d1 (V.drop p)).length + 2 ≤ 4 * n1))
    (HIH : Hid (∀ (W' : World) (pv' : Value) (L' : List Tok) (p n1 : Nat), RK q W W' → p < V.length → valN d1 (V.drop p) = some n1 → L'.length + 4 * (n1 + 1) ≤ 90000 → PutS q pv' L' W' → CelRow b off V W' → Calls Tryz.prog 61 #[.pointer (some ⟨q, 0, none⟩), .slice (some ⟨b, off, none⟩) V.length cap, .int .i64 (p : Int)] W' fun e w' => PEnd q (L' ++ tokK d1 (V.drop p)) ((p + n1 : Nat) : Int) W' e w')) :
    Calls Tryz.prog 61 #[.pointer (some ⟨q, 0, none⟩), .slice (some ⟨b, off, none⟩) V.length cap, .int .i64 (k : Int)] W fun e w' => PEnd q (L ++ (mkT [91] :: (kidsK (valN d1) (tokK d1) false m (V.drop (k + 1)) ++ [mkT [93]]))) ((k + 1 + n : Nat) : Int) W e w' := by
  have hq := hP.lt
  have hk1 : IntKind.i64.wrap ((k : Int) + 1) = (k : Int) + 1 := IntWalk.i64_in _ (by omega)
  have hk2 : (k : Int).toNat = k := by omega
  have hk3 : (0 : Int) ≤ (k : Int) := by omega
  have hk4 : (k : Int) < (V.length : Int) := by omega
  have HK0 := Lib.hid hkids
  have HROOM := Lib.hid hroom
  have HROW := Lib.hid hrow
  have hLL : L.length ≤ 100000 := by omega
  obtain ⟨R, hR⟩ : ∃ R, L ++ (mkT [91] :: (kidsK (valN d1) (tokK d1) false m (V.drop (k + 1)) ++ [mkT [93]])) = R := ⟨_, rfl⟩
  have HR0 : Hid ((L ++ [mkT [91]]) ++ (kidsK (valN d1) (tokK d1) false m (V.drop (k + 1)) ++ [mkT [93]]) = R) := Lib.hid (by rw [← hR]; simp)
  rw [hR]
  obtain ⟨K, hK⟩ : ∃ K, k + 1 + n = K := ⟨_, rfl⟩
  have HK := Lib.hid hK
  rw [hK]
  obtain ⟨W3, hW3⟩ : ∃ W3, (((W.alloc (.cells #[.int .u8 6, .string nx, .string tx, .int .i64 nu, .int .i64 (m : Int)] 59 (0, 0))).alloc (.cells #[.string ⟨#[91]⟩, .string ⟨#[93]⟩] 114 (0, 0))).alloc (.cells #[.string ⟨#[91]⟩] 9 (0, 0))) = W3 := ⟨_, rfl⟩
  have hb3 : Below W.heap.size W W3 := by
    rw [← hW3]; exact (((Below.refl _ _).alloc (Nat.le_refl _) _).alloc (by simp) _).alloc (by simp; omega) _
  have HP3 := Lib.hid (hP.below hb3)
  have HK3 : Hid (RK q W W3) := Lib.hid (rk_below hb3 (Nat.le_of_lt hq))
  have HCB : Hid (W3.heap[W.heap.size]? = some (.cells #[.int .u8 6, .string nx, .string tx, .int .i64 nu, .int .i64 (m : Int)] 59 (0, 0))) := Lib.hid (by rw [← hW3]; exact heap_old (heap_old (heap_new _ _ _ rfl)))
  have HEB : Hid (W3.heap[W.heap.size + 1]? = some (.cells #[.string ⟨#[91]⟩, .string ⟨#[93]⟩] 114 (0, 0))) := Lib.hid (by rw [← hW3]; exact heap_old (heap_new _ _ _ (by simp)))
  have hl3 : W3.cell? ⟨W.heap.size + 1 + 1, 0, none⟩ = some (.string ⟨#[91]⟩) := by rw [← hW3]; exact Lib.cell_of_heap (heap_new _ _ _ (by simp)) 0
  have hne : W.heap.size + 1 + 1 ≠ q := by omega
  have HW3 := Lib.hid hW3
  clear hR hK hkids hroom hP hrow hb3 hW3
  go_enter Tryz.func61, Tryz.ntmps61
  go_wp2_with fail
  rw [HW3.out]
  refine (put_add q pv L 4 4 rfl ⟨#[91]⟩ _ 1 W3 HP3.out hl3 hne hLL).mono ?_; rintro e w1 ⟨rfl, ⟨pv1, hx1⟩, hx2⟩
  have HP4 : Hid (PutS q pv1 (L ++ [mkT [91]]) w1) := Lib.hid hx1
  have HK4 := Lib.hid (HK3.out.trans hx2)
  have HC4 := Lib.hid (hx2.2 _ _ HCB.out (by omega))
  have HE4 := Lib.hid (hx2.2 _ _ HEB.out (by omega))
  have m4 : w1.cell? ⟨W.heap.size, 4, none⟩ = some (.int .i64 (m : Int)) := by rw [Lib.cell_of_heap HC4.out]; rfl
  clear hx1 hx2 hl3 hne HW3 HP3 HK3 HCB HEB c0 c1 c2 c3 c4
  go_wp2_with fail
  clear m4
  have hcq : W.heap.size ≠ q := by omega
  have heq' : W.heap.size + 1 ≠ q := by omega
  generalize W.heap.size + 1 = eb at *
  generalize W.heap.size = cb at *
  go_loopg [2, 29] m (fun gk at_ ct wr => ∃ (j p u : Nat) (nm : List (List UInt8)) (L1 : List Tok) (pv1 : Value), at_ = .int .i64 (p : Int) ∧ ct = .int .i64 j ∧ (gk + j ≤ m ∧ m ≤ gk + j) ∧ p ≤ V.length ∧ Hid (p = k + 1 + u) ∧ j ≤ u ∧ Hid (L1.length ≤ L.length + 1 + 4 * u ∧ u ≤ n) ∧ Hid (KS V d1 k true (some n) gk nm u) ∧ Hid (L1 ++ (kidsK (valN d1) (tokK d1) false gk (V.drop p) ++ [mkT [93]]) = R) ∧ Hid (PutS q pv1 L1 wr) ∧ Hid (RK q W wr) ∧ Hid (wr.heap[cb]? = some (.cells #[.int .u8 6, .string nx, .string tx, .int .i64 nu, .int .i64 (m : Int)] 59 (0, 0))) ∧ Hid (wr.heap[eb]? = some (.cells #[.string ⟨#[91]⟩, .string ⟨#[93]⟩] 114 (0, 0))))
  case atStart => exact ⟨0, k + 1, 0, [], _, pv1, by go_num, rfl, ⟨by omega, by omega⟩, by omega, Lib.hid rfl, Nat.le_refl _, Lib.hid ⟨by simp, Nat.zero_le _⟩, HK0, HR0, HP4, HK4, HC4, HE4⟩
  case round =>
    clear HP4 HK4 HC4 HE4 HR0 HK0 hk1 hk2 hk3 hk4
    rename World => wr
    obtain ⟨j, p, u, nm, L1, pv1, rfl, rfl, ⟨hj, hj'⟩, hp, HPU, hju, HLEN, HKS, HRR, HPr, HKr, HCr, HEr⟩ := hrel
    have e0 : wr.cell? ⟨cb, 0, none⟩ = some (.int .u8 6) := by rw [Lib.cell_of_heap HCr.out]; rfl
    have hL1 : L1.length ≤ 90000 := by have z1 := HROOM.out; have z2 := HLEN.out.1; have z3 := HLEN.out.2; omega
    have hqr := HPr.out.lt
    by_cases hg0 : gk = 0
    · subst hg0
      have hdone := HKS.out.done
      have hjn : ¬ j < m := by omega
      have hu : u = n := (Option.some.inj hdone).symm
      have HPK : Hid (p = K) := Lib.hid (by rw [HPU.out, hu]; exact HK.out)
      have HF : Hid (L1 ++ [mkT [93]] = R) := Lib.hid (by have := HRR.out; rw [show kidsK (valN d1) (tokK d1) false 0 (V.drop p) = [] from rfl] at this; exact this)
      have z1 : wr.cell? ⟨eb, 1, none⟩ = some (.string ⟨#[93]⟩) := by rw [Lib.cell_of_heap HEr.out]; rfl
      have hb5 : Below wr.heap.size wr (wr.alloc (.cells #[.string ⟨#[93]⟩] 9 (0, 0))) := (Below.refl _ _).alloc (Nat.le_refl _) _
      have HP5 := Lib.hid (HPr.out.below hb5)
      have HK5 : Hid (RK q W _) := Lib.hid (HKr.out.trans (rk_below hb5 (Nat.le_of_lt hqr)))
      have hne5 : wr.heap.size ≠ q := by omega
      clear hdone hu hj hj' hju hb5
      go_wp2_with fail
      refine (put_add q pv1 L1 4 4 rfl ⟨#[93]⟩ _ 1 _ HP5.out (new_cell0 _ _ _) hne5 (by omega)).mono ?_; rintro e wx ⟨rfl, hx1, hx2⟩
      have HFIN : Hid (PEnd q R (K : Int) W (.returned (.int .i64 (p : Int))) wx) := Lib.hid (by
        rw [← HF.out, HPK.out]
        exact ⟨rfl, hx1, HK5.out.trans hx2⟩)
      clear hx1 hx2
      go_wp2_with fail
      go_ret
      exact HFIN.out
    · obtain ⟨g1, rfl⟩ : ∃ g1, gk = g1 + 1 := ⟨gk - 1, by omega⟩
      have hjm : j < m := by omega
      clear hg0
      obtain ⟨hpl, n1, hv1, hks⟩ := HKS.out.step HPU.out
      have hn1 := (valN_le _ _ _ hv1).1
      have hn2 := (valN_le _ _ _ hv1).2
      have hun1 : u + n1 ≤ n := by
        have := hks
        unfold KS at this
        obtain ⟨x, _, hx⟩ := Option.map_eq_some_iff.1 this
        omega
      rw [List.length_drop] at hn2
      have HT1 := Lib.hid (HTL.out p n1 hv1)
      have HUN := Lib.hid hun1
      clear hun1
      have hrr := HRR.out
      rw [kidsK, hv1, Option.getD_some, List.drop_drop] at hrr
      have HI : Hid (∀ (W' : World) (pv' : Value) (L' : List Tok), RK q W W' → L'.length + 4 * (n1 + 1) ≤ 90000 → PutS q pv' L' W' → CelRow b off V W' → Calls Tryz.prog 61 #[.pointer (some ⟨q, 0, none⟩), .slice (some ⟨b, off, none⟩) V.length cap, .int .i64 (p : Int)] W' fun e w' => PEnd q (L' ++ tokK d1 (V.drop p)) ((p + n1 : Nat) : Int) W' e w') := Lib.hid fun W' pv' L' h0 h1 h2 h3 => HIH.out W' pv' L' p n1 h0 hpl hv1 h1 h2 h3
      obtain ⟨p2, hp2⟩ : ∃ p2, p + n1 = p2 := ⟨_, rfl⟩
      have HP2 : Hid (p2 = k + 1 + (u + n1)) := Lib.hid (by rw [← hp2, HPU.out]; omega)
      have hp3 : p2 ≤ V.length := by omega
      have HKS2 := Lib.hid hks
      rw [hp2] at HI hrr
      have p5 : (p : Int).toNat = p := by omega
      have p6 : (0 : Int) ≤ (p : Int) := by omega
      have p7 : (p : Int) < (V.length : Int) := by omega
      have hbw : b ≠ q := by omega
      unfold preK at hrr
      rw [if_neg (by simp)] at hrr
      clear hv1 hks
      generalize tokK d1 (V.drop p) = tj at *
      have HRX : Hid ((L1 ++ tj) ++ (kidsK (valN d1) (tokK d1) false g1 (V.drop p2) ++ [mkT [93]]) = R) := Lib.hid (by rw [← hrr]; simp)
      have HJJ := Lib.hid (And.intro hj (And.intro hj' hju))
      clear hrr hj hj' hju
      have HP7 := HPr
      have HK7 : Hid (RK q wr wr) := Lib.hid ⟨Below.refl _ _, fun k o h _ => h⟩
      go_wp2_with fail
      refine (HI.out wr pv1 (L1) (HKr.out.trans HK7.out) (by have z1 := HROOM.out; have z2 := HLEN.out.1; have z3 := HLEN.out.2; have z4 := HT1.out; have z5 := HUN.out; (try simp only [List.length_append, List.length_cons, List.length_nil]); omega) HP7.out ((HROW.out.rk HKr.out hbw).rk HK7.out hbw)).mono ?_; rintro e w8 ⟨rfl, ⟨pv8, hx1⟩, hx2⟩
      have HP8 := Lib.hid hx1
      have hk8 := HK7.out.trans hx2
      have HK8 := Lib.hid (HKr.out.trans hk8)
      have HC8 := Lib.hid (hk8.2 _ _ HCr.out hcq)
      have HE8 := Lib.hid (hk8.2 _ _ HEr.out heq')
      have hz8 : IntKind.i64.wrap ((j : Int) + 1) = ((j + 1 : Nat) : Int) := by rw [IntWalk.i64_in _ (by omega)]; omega
      clear hx1 hx2 hk8
      go_wp2_with fail
      obtain ⟨hj, hj', hju⟩ := HJJ.out
      go_roundg g1
      case measure => omega
      case rel => exact ⟨j + 1, p2, u + n1, _, _, pv8, rfl, by first | rfl | go_num, ⟨by omega, by omega⟩, hp3, HP2, by omega, Lib.hid ⟨by have z1 := HROOM.out; have z2 := HLEN.out.1; have z3 := HLEN.out.2; have z4 := HT1.out; have z5 := HUN.out; (try simp only [List.length_append, List.length_cons, List.length_nil]); omega, HUN.out⟩, HKS2, HRX, HP8, HK8, HC8, HE8⟩
set_option maxRecDepth 100000 in
set_option maxHeartbeats 4000000 in
theorem up_obj (q b off cap k : Nat) (V : List Cel) (pv : Value) (L : List Tok) (W : World) (nx tx : ByteArray) (nu : Int) (m : Nat) (hP : PutS q pv L W)
    (hk : k < V.length) (hl : V.length ≤ 2048) (hrow : CelRow b off V W) (hbq : b < q)
    (c0 : W.cell? ⟨b, off + k * 5, none⟩ = some (.int .u8 7)) (c1 : W.cell? ⟨b, off + k * 5 + 1, none⟩ = some (.string nx)) (c2 : W.cell? ⟨b, off + k * 5 + 2, none⟩ = some (.string tx)) (c3 : W.cell? ⟨b, off + k * 5 + 3, none⟩ = some (.int .i64 nu)) (c4 : W.cell? ⟨b, off + k * 5 + 4, none⟩ = some (.int .i64 (m : Int)))
    (hmx : (m : Int) ≤ 9223372036854775807) (d1 n : Nat) (hkids : KS V d1 k false (some n) m [] 0) (hroom : L.length + 4 * (n + 2) ≤ 90000)
    (HTL : Hid (∀ (p n1 : Nat), valN d1 (V.drop p) = some n1 → (tokK d1 (V.drop p)).length + 2 ≤ 4 * n1))
    (HIH : Hid (∀ (W' : World) (pv' : Value) (L' : List Tok) (p n1 : Nat), RK q W W' → p < V.length → valN d1 (V.drop p) = some n1 → L'.length + 4 * (n1 + 1) ≤ 90000 → PutS q pv' L' W' → CelRow b off V W' → Calls Tryz.prog 61 #[.pointer (some ⟨q, 0, none⟩), .slice (some ⟨b, off, none⟩) V.length cap, .int .i64 (p : Int)] W' fun e w' => PEnd q (L' ++ tokK d1 (V.drop p)) ((p + n1 : Nat) : Int) W' e w')) :
    Calls Tryz.prog 61 #[.pointer (some ⟨q, 0, none⟩), .slice (some ⟨b, off, none⟩) V.length cap, .int .i64 (k : Int)] W fun e w' => PEnd q (L ++ (mkT [123] :: (kidsK (valN d1) (tokK d1) true m (V.drop (k + 1)) ++ [mkT [125]]))) ((k + 1 + n : Nat) : Int) W e w' := by
  have hq := hP.lt
  have hk1 : IntKind.i64.wrap ((k : Int) + 1) = (k : Int) + 1 := IntWalk.i64_in _ (by omega)
  have hk2 : (k : Int).toNat = k := by omega
  have hk3 : (0 : Int) ≤ (k : Int) := by omega
  have hk4 : (k : Int) < (V.length : Int) := by omega
  have HK0 := Lib.hid hkids
  have HROOM := Lib.hid hroom
  have HROW := Lib.hid hrow
  have hLL : L.length ≤ 100000 := by omega
  obtain ⟨R, hR⟩ : ∃ R, L ++ (mkT [123] :: (kidsK (valN d1) (tokK d1) true m (V.drop (k + 1)) ++ [mkT [125]])) = R := ⟨_, rfl⟩
  have HR0 : Hid ((L ++ [mkT [123]]) ++ (kidsK (valN d1) (tokK d1) true m (V.drop (k + 1)) ++ [mkT [125]]) = R) := Lib.hid (by rw [← hR]; simp)
  rw [hR]
  obtain ⟨K, hK⟩ : ∃ K, k + 1 + n = K := ⟨_, rfl⟩
  have HK := Lib.hid hK
  rw [hK]
  obtain ⟨W3, hW3⟩ : ∃ W3, (((W.alloc (.cells #[.int .u8 7, .string nx, .string tx, .int .i64 nu, .int .i64 (m : Int)] 59 (0, 0))).alloc (.cells #[.string ⟨#[123]⟩, .string ⟨#[125]⟩] 114 (0, 0))).alloc (.cells #[.string ⟨#[123]⟩] 9 (0, 0))) = W3 := ⟨_, rfl⟩
  have hb3 : Below W.heap.size W W3 := by
    rw [← hW3]; exact (((Below.refl _ _).alloc (Nat.le_refl _) _).alloc (by simp) _).alloc (by simp; omega) _
  have HP3 := Lib.hid (hP.below hb3)
  have HK3 : Hid (RK q W W3) := Lib.hid (rk_below hb3 (Nat.le_of_lt hq))
  have HCB : Hid (W3.heap[W.heap.size]? = some (.cells #[.int .u8 7, .string nx, .string tx, .int .i64 nu, .int .i64 (m : Int)] 59 (0, 0))) := Lib.hid (by rw [← hW3]; exact heap_old (heap_old (heap_new _ _ _ rfl)))
  have HEB : Hid (W3.heap[W.heap.size + 1]? = some (.cells #[.string ⟨#[123]⟩, .string ⟨#[125]⟩] 114 (0, 0))) := Lib.hid (by rw [← hW3]; exact heap_old (heap_new _ _ _ (by simp)))
  have hl3 : W3.cell? ⟨W.heap.size + 1 + 1, 0, none⟩ = some (.string ⟨#[123]⟩) := by rw [← hW3]; exact Lib.cell_of_heap (heap_new _ _ _ (by simp)) 0
  have hne : W.heap.size + 1 + 1 ≠ q := by omega
  have HW3 := Lib.hid hW3
  clear hR hK hkids hroom hP hrow hb3 hW3
  go_enter Tryz.func61, Tryz.ntmps61
  go_wp2_with fail
  rw [HW3.out]
  refine (put_add q pv L 4 4 rfl ⟨#[123]⟩ _ 1 W3 HP3.out hl3 hne hLL).mono ?_; rintro e w1 ⟨rfl, ⟨pv1, hx1⟩, hx2⟩
  have HP4 : Hid (PutS q pv1 (L ++ [mkT [123]]) w1) := Lib.hid hx1
  have HK4 := Lib.hid (HK3.out.trans hx2)
  have HC4 := Lib.hid (hx2.2 _ _ HCB.out (by omega))
  have HE4 := Lib.hid (hx2.2 _ _ HEB.out (by omega))
  have m4 : w1.cell? ⟨W.heap.size, 4, none⟩ = some (.int .i64 (m : Int)) := by rw [Lib.cell_of_heap HC4.out]; rfl
  clear hx1 hx2 hl3 hne HW3 HP3 HK3 HCB HEB c0 c1 c2 c3 c4
  go_wp2_with fail
  clear m4
  have hcq : W.heap.size ≠ q := by omega
  have heq' : W.heap.size + 1 ≠ q := by omega
  generalize W.heap.size + 1 = eb at *
  generalize W.heap.size = cb at *
  go_loopg [2, 29] m (fun gk at_ ct wr => ∃ (j p u : Nat) (nm : List (List UInt8)) (L1 : List Tok) (pv1 : Value), at_ = .int .i64 (p : Int) ∧ ct = .int .i64 j ∧ (gk + j ≤ m ∧ m ≤ gk + j) ∧ p ≤ V.length ∧ Hid (p = k + 1 + u) ∧ j ≤ u ∧ Hid (L1.length ≤ L.length + 1 + 4 * u ∧ u ≤ n) ∧ Hid (KS V d1 k false (some n) gk nm u) ∧ Hid (L1 ++ (kidsK (valN d1) (tokK d1) true gk (V.drop p) ++ [mkT [125]]) = R) ∧ Hid (PutS q pv1 L1 wr) ∧ Hid (RK q W wr) ∧ Hid (wr.heap[cb]? = some (.cells #[.int .u8 7, .string nx, .string tx, .int .i64 nu, .int .i64 (m : Int)] 59 (0, 0))) ∧ Hid (wr.heap[eb]? = some (.cells #[.string ⟨#[123]⟩, .string ⟨#[125]⟩] 114 (0, 0))))
  case atStart => exact ⟨0, k + 1, 0, [], _, pv1, by go_num, rfl, ⟨by omega, by omega⟩, by omega, Lib.hid rfl, Nat.le_refl _, Lib.hid ⟨by simp, Nat.zero_le _⟩, HK0, HR0, HP4, HK4, HC4, HE4⟩
  case round =>
    clear HP4 HK4 HC4 HE4 HR0 HK0 hk1 hk2 hk3 hk4
    rename World => wr
    obtain ⟨j, p, u, nm, L1, pv1, rfl, rfl, ⟨hj, hj'⟩, hp, HPU, hju, HLEN, HKS, HRR, HPr, HKr, HCr, HEr⟩ := hrel
    have e0 : wr.cell? ⟨cb, 0, none⟩ = some (.int .u8 7) := by rw [Lib.cell_of_heap HCr.out]; rfl
    have hL1 : L1.length ≤ 90000 := by have z1 := HROOM.out; have z2 := HLEN.out.1; have z3 := HLEN.out.2; omega
    have hqr := HPr.out.lt
    by_cases hg0 : gk = 0
    · subst hg0
      have hdone := HKS.out.done
      have hjn : ¬ j < m := by omega
      have hu : u = n := (Option.some.inj hdone).symm
      have HPK : Hid (p = K) := Lib.hid (by rw [HPU.out, hu]; exact HK.out)
      have HF : Hid (L1 ++ [mkT [125]] = R) := Lib.hid (by have := HRR.out; rw [show kidsK (valN d1) (tokK d1) true 0 (V.drop p) = [] from rfl] at this; exact this)
      have z1 : wr.cell? ⟨eb, 1, none⟩ = some (.string ⟨#[125]⟩) := by rw [Lib.cell_of_heap HEr.out]; rfl
      have hb5 : Below wr.heap.size wr (wr.alloc (.cells #[.string ⟨#[125]⟩] 9 (0, 0))) := (Below.refl _ _).alloc (Nat.le_refl _) _
      have HP5 := Lib.hid (HPr.out.below hb5)
      have HK5 : Hid (RK q W _) := Lib.hid (HKr.out.trans (rk_below hb5 (Nat.le_of_lt hqr)))
      have hne5 : wr.heap.size ≠ q := by omega
      clear hdone hu hj hj' hju hb5
      go_wp2_with fail
      refine (put_add q pv1 L1 4 4 rfl ⟨#[125]⟩ _ 1 _ HP5.out (new_cell0 _ _ _) hne5 (by omega)).mono ?_; rintro e wx ⟨rfl, hx1, hx2⟩
      have HFIN : Hid (PEnd q R (K : Int) W (.returned (.int .i64 (p : Int))) wx) := Lib.hid (by
        rw [← HF.out, HPK.out]
        exact ⟨rfl, hx1, HK5.out.trans hx2⟩)
      clear hx1 hx2
      go_wp2_with fail
      go_ret
      exact HFIN.out
    · obtain ⟨g1, rfl⟩ : ∃ g1, gk = g1 + 1 := ⟨gk - 1, by omega⟩
      have hjm : j < m := by omega
      clear hg0
      obtain ⟨hpl, n1, hv1, hks⟩ := HKS.out.step HPU.out
      have hn1 := (valN_le _ _ _ hv1).1
      have hn2 := (valN_le _ _ _ hv1).2
      have hun1 : u + n1 ≤ n := by
        have := hks
        unfold KS at this
        obtain ⟨x, _, hx⟩ := Option.map_eq_some_iff.1 this
        omega
      rw [List.length_drop] at hn2
      have HT1 := Lib.hid (HTL.out p n1 hv1)
      have HUN := Lib.hid hun1
      clear hun1
      have hrr := HRR.out
      rw [kidsK, hv1, Option.getD_some, List.drop_drop] at hrr
      have HI : Hid (∀ (W' : World) (pv' : Value) (L' : List Tok), RK q W W' → L'.length + 4 * (n1 + 1) ≤ 90000 → PutS q pv' L' W' → CelRow b off V W' → Calls Tryz.prog 61 #[.pointer (some ⟨q, 0, none⟩), .slice (some ⟨b, off, none⟩) V.length cap, .int .i64 (p : Int)] W' fun e w' => PEnd q (L' ++ tokK d1 (V.drop p)) ((p + n1 : Nat) : Int) W' e w') := Lib.hid fun W' pv' L' h0 h1 h2 h3 => HIH.out W' pv' L' p n1 h0 hpl hv1 h1 h2 h3
      obtain ⟨p2, hp2⟩ : ∃ p2, p + n1 = p2 := ⟨_, rfl⟩
      have HP2 : Hid (p2 = k + 1 + (u + n1)) := Lib.hid (by rw [← hp2, HPU.out]; omega)
      have hp3 : p2 ≤ V.length := by omega
      have HKS2 := Lib.hid hks
      rw [hp2] at HI hrr
      have p5 : (p : Int).toNat = p := by omega
      have p6 : (0 : Int) ≤ (p : Int) := by omega
      have p7 : (p : Int) < (V.length : Int) := by omega
      have hbw : b ≠ q := by omega
      have hhd : ((V.drop p).headD ⟨0, [], [], 0, 0⟩).name = V[p].name := by rw [List.drop_eq_getElem_cons hpl]; rfl
      unfold preK at hrr
      rw [hhd, if_pos rfl] at hrr
      obtain ⟨_, r1, _⟩ := (HROW.out.rk HKr.out hbw) p hpl
      obtain ⟨xn, hxn⟩ : ∃ x : ByteArray, (⟨V[p].name.toArray⟩ : ByteArray) = x := ⟨_, rfl⟩
      have hxl : xn.data.toList = V[p].name := by rw [← hxn]
      rw [hxn] at r1
      rw [← hxl] at hrr
      clear hhd hxn hxl hv1 hks
      generalize tokK d1 (V.drop p) = tj at *
      have HRX : Hid ((L1 ++ [nmT xn.data.toList] ++ [mkT [58]] ++ tj) ++ (kidsK (valN d1) (tokK d1) true g1 (V.drop p2) ++ [mkT [125]]) = R) := Lib.hid (by rw [← hrr]; simp)
      have HJJ := Lib.hid (And.intro hj (And.intro hj' hju))
      clear hrr hj hj' hju
      have hb5 : Below wr.heap.size wr (wr.alloc (.cells #[.string xn] 9 (0, 0))) := (Below.refl _ _).alloc (Nat.le_refl _) _
      have HP5 := Lib.hid (HPr.out.below hb5)
      have HK5 : Hid (RK q wr _) := Lib.hid (rk_below hb5 (Nat.le_of_lt hqr))
      have hne5 : wr.heap.size ≠ q := by omega
      clear hb5
      go_wp2_with fail
      refine (put_add q pv1 L1 1 1 rfl xn _ 1 _ HP5.out (new_cell0 _ _ _) hne5 (by omega)).mono ?_; rintro e w2 ⟨rfl, ⟨pv2, hx1⟩, hx2⟩
      have hb6 : Below w2.heap.size w2 (w2.alloc (.cells #[.string ⟨#[58]⟩] 9 (0, 0))) := (Below.refl _ _).alloc (Nat.le_refl _) _
      have HP6 : Hid (PutS q pv2 (L1 ++ [nmT xn.data.toList]) _) := Lib.hid (hx1.below hb6)
      have HK6 : Hid (RK q wr _) := Lib.hid ((HK5.out.trans hx2).trans (rk_below hb6 (Nat.le_of_lt hx1.lt)))
      have hne6 : w2.heap.size ≠ q := by have := hx1.lt; omega
      clear hx1 hx2 hb6 r1
      go_wp2_with fail
      refine (put_add q pv2 _ 4 4 rfl ⟨#[58]⟩ _ 1 _ HP6.out (new_cell0 _ _ _) hne6 (by simp; omega)).mono ?_; rintro e w3 ⟨rfl, ⟨pv3, hx1⟩, hx2⟩
      have HP7 : Hid (PutS q pv3 (L1 ++ [nmT xn.data.toList] ++ [mkT [58]]) w3) := Lib.hid hx1
      have HK7 := Lib.hid (HK6.out.trans hx2)
      clear hx1 hx2
      go_wp2_with fail
      refine (HI.out w3 pv3 (L1 ++ [nmT xn.data.toList] ++ [mkT [58]]) (HKr.out.trans HK7.out) (by have z1 := HROOM.out; have z2 := HLEN.out.1; have z3 := HLEN.out.2; have z4 := HT1.out; have z5 := HUN.out; (try simp only [List.length_append, List.length_cons, List.length_nil]); omega) HP7.out ((HROW.out.rk HKr.out hbw).rk HK7.out hbw)).mono ?_; rintro e w8 ⟨rfl, ⟨pv8, hx1⟩, hx2⟩
      have HP8 := Lib.hid hx1
      have hk8 := HK7.out.trans hx2
      have HK8 := Lib.hid (HKr.out.trans hk8)
      have HC8 := Lib.hid (hk8.2 _ _ HCr.out hcq)
      have HE8 := Lib.hid (hk8.2 _ _ HEr.out heq')
      have hz8 : IntKind.i64.wrap ((j : Int) + 1) = ((j + 1 : Nat) : Int) := by rw [IntWalk.i64_in _ (by omega)]; omega
      clear hx1 hx2 hk8
      go_wp2_with fail
      obtain ⟨hj, hj', hju⟩ := HJJ.out
      go_roundg g1
      case measure => omega
      case rel => exact ⟨j + 1, p2, u + n1, _, _, pv8, rfl, by first | rfl | go_num, ⟨by omega, by omega⟩, hp3, HP2, by omega, Lib.hid ⟨by have z1 := HROOM.out; have z2 := HLEN.out.1; have z3 := HLEN.out.2; have z4 := HT1.out; have z5 := HUN.out; (try simp only [List.length_append, List.length_cons, List.length_nil]); omega, HUN.out⟩, HKS2, HRX, HP8, HK8, HC8, HE8⟩
end Go.Proofs.YtbejhdhhkpllfaaGreatDoor
namespace Go.Proofs.YtbejhdhhkpllfaaGreatDoor
open Go.RowKit
theorem kind_k (c : Cel) (k : Nat) (hk : k < 256) (h : c.kind.toNat = k) : c.kind = UInt8.ofNat k := by
  refine UInt8.toNat_inj.1 ?_
  rw [UInt8.toNat_ofNat', h]; omega
def NumV (V : List Cel) : Prop := ∀ c ∈ V, R c.num ∧ R c.many
set_option maxRecDepth 100000 in
set_option maxHeartbeats 2000000 in
theorem up_case (w0 : World) (V : List Cel) (q b off cap : Nat) (hs : NumV V) (hl : V.length ≤ 2048) (hET : EnvT w0) (hq0 : w0.heap.size ≤ q) (hbq : b < q)
    (d : Nat) (W : World) (pv : Value) (L : List Tok) (k n : Nat) (hk : k < V.length) (hv : valN d (V.drop k) = some n) (hroom : L.length + 4 * (n + 1) ≤ 90000) (hP : PutS q pv L W) (hrow : CelRow b off V W) (hW : Below w0.heap.size w0 W)
    (HIH : ∀ d1, d = d1 + 1 → Hid (∀ (W' : World) (pv' : Value) (L' : List Tok) (p n1 : Nat), RK q W W' → p < V.length → valN d1 (V.drop p) = some n1 → L'.length + 4 * (n1 + 1) ≤ 90000 → PutS q pv' L' W' → CelRow b off V W' → Calls Tryz.prog 61 #[.pointer (some ⟨q, 0, none⟩), .slice (some ⟨b, off, none⟩) V.length cap, .int .i64 (p : Int)] W' fun e w' => PEnd q (L' ++ tokK d1 (V.drop p)) ((p + n1 : Nat) : Int) W' e w')) :
    Calls Tryz.prog 61 #[.pointer (some ⟨q, 0, none⟩), .slice (some ⟨b, off, none⟩) V.length cap, .int .i64 (k : Int)] W fun e w' => PEnd q (L ++ tokK d (V.drop k)) ((k + n : Nat) : Int) W e w' := by
  obtain ⟨c0, c1, c2, c3, c4⟩ := hrow k hk
  obtain ⟨s3, s4⟩ := hs V[k] (List.getElem_mem _)
  have hval := valN_drop V k d hk
  rw [hv] at hval
  have hnest := nest_kind V[k]
  have hone := one_kind V[k]
  have hkl := UInt8.toNat_lt V[k].kind
  have ho : oneC V[k] = true := by
    cases h : oneC V[k] with
    | true => rfl
    | false => rw [h] at hval; cases hval
  rw [ho, if_pos rfl] at hval
  rw [ho] at hone
  have h7 : V[k].kind.toNat ≤ 7 := by
    have := hone.symm
    simp only [Bool.and_eq_true, decide_eq_true_eq] at this
    exact this.1
  have hdrop := List.drop_eq_getElem_cons hk
  have hlit : nestC V[k] = false → tokK d (V.drop k) = litK V[k] ∧ n = 1 := by
    intro h
    rw [h, if_neg Bool.false_ne_true] at hval
    refine ⟨?_, Option.some.inj hval⟩
    rw [hdrop]
    cases d with
    | zero => rw [tokK_zero, headK_cons, h]; rfl
    | succ d => rw [tokK_more, headK_cons, h]; rfl
  have hcast : ((k + 1 : Nat) : Int) = (k : Int) + 1 := by omega
  have hll : L.length + 8 ≤ 100000 := by omega
  have htl : (⟨V[k].text.toArray⟩ : ByteArray).data.toList = V[k].text := by simp
  have h8 : V[k].kind.toNat = 0 ∨ V[k].kind.toNat = 1 ∨ V[k].kind.toNat = 2 ∨ V[k].kind.toNat = 3 ∨ V[k].kind.toNat = 4 ∨ V[k].kind.toNat = 5 ∨ V[k].kind.toNat = 6 ∨ V[k].kind.toNat = 7 := by omega
  rcases h8 with h | h | h | h | h | h | h | h
  · obtain ⟨e1, rfl⟩ := hlit (by rw [hnest, h]; rfl)
    have hk0 := kind_k V[k] 0 (by omega) h
    rw [e1, hcast]
    have : litK V[k] = [nmT [110, 117, 108, 108]] := by unfold litK; rw [hk0]; rfl
    rw [this]
    exact up_null q b off V.length cap k pv L W _ _ _ _ _ hP hk hl hll c0 c1 c2 c3 c4 h
  · obtain ⟨e1, rfl⟩ := hlit (by rw [hnest, h]; rfl)
    have hk0 := kind_k V[k] 1 (by omega) h
    rw [e1, hcast]
    have hnum : V[k].num = 0 ∨ V[k].num = 1 := by
      rw [h] at hone
      have := hone.symm
      simp only [Bool.and_eq_true] at this
      have h2 := this.2.1.2
      unfold cnum at h2
      simpa using h2
    rcases hnum with hn0 | hn1
    · have : litK V[k] = [nmT [102, 97, 108, 115, 101]] := by unfold litK; rw [hk0, hn0]; rfl
      rw [this]
      exact up_false q b off V.length cap k pv L W _ _ _ _ _ hP hk hl hll c0 c1 c2 c3 c4 h hn0
    · have : litK V[k] = [nmT [116, 114, 117, 101]] := by unfold litK; rw [hk0, hn1]; rfl
      rw [this]
      exact up_true q b off V.length cap k pv L W _ _ _ _ _ hP hk hl hll c0 c1 c2 c3 c4 h hn1
  · obtain ⟨e1, rfl⟩ := hlit (by rw [hnest, h]; rfl)
    have hk0 := kind_k V[k] 2 (by omega) h
    rw [e1, hcast]
    have : litK V[k] = [⟨2, Lib.itoa V[k].num, 0⟩] := by unfold litK; rw [hk0]; rfl
    rw [this]
    exact up_int q b off V.length cap k pv L W _ _ _ _ _ hP hk hl hll c0 c1 c2 c3 c4 h (Lib.hid fun W' hW' => write_tab V[k].num s3 W' (hET.stays (hW.trans (hW'.mono hW.size))))
  · obtain ⟨e1, rfl⟩ := hlit (by rw [hnest, h]; rfl)
    have hk0 := kind_k V[k] 3 (by omega) h
    rw [e1, hcast]
    have : litK V[k] = [⟨3, (⟨V[k].text.toArray⟩ : ByteArray).data.toList, 0⟩] := by unfold litK; rw [hk0, htl]; rfl
    rw [this]
    exact up_text q b off V.length cap k pv L W _ _ _ _ _ hP hk hl hll c0 c1 c2 c3 c4 h
  · obtain ⟨e1, rfl⟩ := hlit (by rw [hnest, h]; rfl)
    have hk0 := kind_k V[k] 4 (by omega) h
    rw [e1, hcast]
    have : litK V[k] = [⟨1, (⟨V[k].text.toArray⟩ : ByteArray).data.toList, 0⟩] := by unfold litK; rw [hk0, htl]; rfl
    rw [this]
    exact up_enum q b off V.length cap k pv L W _ _ _ _ _ hP hk hl hll c0 c1 c2 c3 c4 h
  · obtain ⟨e1, rfl⟩ := hlit (by rw [hnest, h]; rfl)
    have hk0 := kind_k V[k] 5 (by omega) h
    rw [e1, hcast]
    have : litK V[k] = [mkT [36], nmT (⟨V[k].text.toArray⟩ : ByteArray).data.toList] := by unfold litK; rw [hk0, htl]; rfl
    rw [this]
    exact up_var q b off V.length cap k pv L W _ _ _ _ _ hP hk hl hll c0 c1 c2 c3 c4 h
  all_goals
    have hcn : cnest V[k].kind.toNat = true := by rw [h]; rfl
    rw [hnest, hcn, if_pos rfl] at hval
    cases d with
    | zero => cases hval
    | succ d1 =>
      dsimp only at hval
      obtain ⟨n', hn', hnn⟩ := Option.map_eq_some_iff.1 hval.symm
      have hm : 0 ≤ V[k].many := by
        have := hone.symm
        rw [hcn] at this
        simp only [Bool.and_eq_true, if_pos rfl, decide_eq_true_eq] at this
        simpa using this.2.2
      obtain ⟨m, hm2⟩ := Int.eq_ofNat_of_zero_le hm
      have hmt : V[k].many.toNat = m := by rw [hm2]; rfl
      have hmx : (m : Int) ≤ 9223372036854775807 := by rw [← hm2]; exact s4.2
      rw [hmt] at hn'
      rw [hm2] at c4
      have htext : tokK (d1 + 1) (V.drop k) = opnK V[k] :: (kidsK (valN d1) (tokK d1) (!(V[k].kind == 6)) m (V.drop (k + 1)) ++ [shtK V[k]]) := by
        rw [hdrop, tokK_more, headK_cons, hnest, hcn, if_pos rfl, hmt]
      have hKn : ((k + n : Nat) : Int) = ((k + 1 + n' : Nat) : Int) := by omega
      have HTL : Hid (∀ (p n1 : Nat), valN d1 (V.drop p) = some n1 → (tokK d1 (V.drop p)).length + 2 ≤ 4 * n1) := Lib.hid fun p n1 h => tokK_len d1 _ n1 h
      rw [htext, hKn]
      unfold opnK shtK
      rw [h] at c0
      first
        | (have hk6 : (V[k].kind == 6) = true := beq_iff_eq.2 (kind_k V[k] 6 (by omega) h)
           rw [hk6] at hn' ⊢
           rw [if_pos rfl, if_pos rfl, Bool.not_true]
           have hks := KS.start hn'
           have hrm : L.length + 4 * (n' + 2) ≤ 90000 := by omega
           exact up_list q b off cap k V pv L W _ _ _ m hP hk hl hrow hbq c0 c1 c2 c3 c4 hmx d1 n' hks hrm HTL (HIH d1 rfl))
        | (have hk6 : (V[k].kind == 6) = false := beq_eq_false_iff_ne.2 fun e => by rw [e] at h; exact absurd h (by decide)
           rw [hk6] at hn' ⊢
           rw [if_neg Bool.false_ne_true, if_neg Bool.false_ne_true, Bool.not_false]
           have hks := KS.start hn'
           have hrm : L.length + 4 * (n' + 2) ≤ 90000 := by omega
           exact up_obj q b off cap k V pv L W _ _ _ m hP hk hl hrow hbq c0 c1 c2 c3 c4 hmx d1 n' hks hrm HTL (HIH d1 rfl))
theorem up_any (w0 : World) (V : List Cel) (q b off cap : Nat) (hs : NumV V) (hl : V.length ≤ 2048) (hET : EnvT w0) (hq0 : w0.heap.size ≤ q) (hbq : b < q) :
    ∀ (d : Nat) (W : World) (pv : Value) (L : List Tok) (k n : Nat), k < V.length → valN d (V.drop k) = some n → L.length + 4 * (n + 1) ≤ 90000 → PutS q pv L W → CelRow b off V W → Below w0.heap.size w0 W →
    Calls Tryz.prog 61 #[.pointer (some ⟨q, 0, none⟩), .slice (some ⟨b, off, none⟩) V.length cap, .int .i64 (k : Int)] W fun e w' => PEnd q (L ++ tokK d (V.drop k)) ((k + n : Nat) : Int) W e w' := by
  intro d
  induction d with
  | zero => intro W pv L k n hk hv hr hP hrow hW; exact up_case w0 V q b off cap hs hl hET hq0 hbq 0 W pv L k n hk hv hr hP hrow hW (fun d1 h => by omega)
  | succ d ih =>
    intro W pv L k n hk hv hr hP hrow hW
    refine up_case w0 V q b off cap hs hl hET hq0 hbq (d + 1) W pv L k n hk hv hr hP hrow hW (fun d1 h => ?_)
    obtain rfl : d = d1 := by omega
    exact Lib.hid fun W' pv' L' p n1 h0 h1 h2 h3 h4 h5 => ih W' pv' L' p n1 h1 h2 h3 h4 h5 (hW.trans (h0.1.mono hq0))
end Go.Proofs.YtbejhdhhkpllfaaGreatDoor
