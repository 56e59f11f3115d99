/- Walks and plain laws of this proof, joined from smaller texts (2). -/
import Derived.Deep.LoopGhost
import Derived.Maps.RangeWalk
import Derived.Maps.AppendAt
import Derived.Lib.SliceRun
import Derived.Laws.StructEq
import Derived.ArgAppend
import Derived.Handy
import Derived.Test.YtgacpmdebjndkaaGreatDoorShelf
import Derived.Deep.Draws
import Derived.Laws.EntriesVeiled
import Derived.Test.YtgacpmdebjndkaaGreatDoorRo1
set_option linter.unusedSimpArgs false
set_option linter.unusedVariables false
namespace Go.Proofs.YtgacpmdebjndkaaGreatDoor
open Go.RowKit
theorem StrSl.below {v : Value} {l : List ByteArray} {w w' : World} (h : StrSl v l w) (hb : Below w.heap.size w w') : StrSl v l w' := by
  rcases h with h | ⟨b, off, cap, h1, h2⟩
  · exact Or.inl h
  · refine Or.inr ⟨b, off, cap, h1, fun j x hj => ?_⟩
    exact (hb.cell (p := ⟨b, _, none⟩) (lt_of_cell (h2 j x hj))).trans (h2 j x hj)
theorem keepR {b cb i : Nat} {x c : Value} {wr W W' : World} (hb : Below W.heap.size W W') (h : W.cell? ⟨b, i, none⟩ = some x ∧ W.cell? ⟨cb, 0, none⟩ = some c ∧ Below wr.heap.size wr W) :
    W'.cell? ⟨b, i, none⟩ = some x ∧ W'.cell? ⟨cb, 0, none⟩ = some c ∧ Below wr.heap.size wr W' := by
  obtain ⟨h1, h2, h3⟩ := h
  exact ⟨(hb.cell (p := ⟨b, _, none⟩) (lt_of_cell h1)).trans h1, (hb.cell (p := ⟨cb, _, none⟩) (lt_of_cell h2)).trans h2, h3.trans (hb.mono h3.size)⟩
theorem revB (nm : List ByteArray) (x : List UInt8) : amongB (nm.map (·.data.toList)).reverse x = amongB (nm.map (·.data.toList)) x := by
  unfold amongB
  rw [List.any_reverse]
set_option maxRecDepth 100000 in
set_option maxHeartbeats 1000000 in
theorem rb_one (V : List Cel) (b off cap : Nat) (W : World) (k d : Nat) (kk : Nat) (nx tx : ByteArray) (nu mn : Int)
    (hk : k < V.length) (hl : V.length ≤ 100000) (hd : d ≤ 16)
    (c0 : W.cell? ⟨b, off + k * 5, none⟩ = some (.int .u8 (kk : Int))) (c1 : W.cell? ⟨b, off + k * 5 + 1, none⟩ = some (.string nx)) (c2 : W.cell? ⟨b, off + k * 5 + 2, none⟩ = some (.string tx)) (c3 : W.cell? ⟨b, off + k * 5 + 3, none⟩ = some (.int .i64 nu)) (c4 : W.cell? ⟨b, off + k * 5 + 4, none⟩ = some (.int .i64 mn))
    (HO : Hid (∀ w : World, Calls Tryz.prog 112 #[.agg #[.int .u8 (kk : Int), .string nx, .string tx, .int .i64 nu, .int .i64 mn]] w fun e w' => e = .returned (.bool false) ∧ Below w.heap.size w w')) :
    Calls Tryz.prog 101 #[.slice (some ⟨b, off, none⟩) V.length cap, .int .i64 (k : Int), .int .i64 (d : Int)] W fun e w' => e = .returned (.int .i64 (-1)) ∧ Below W.heap.size W w' := by
  go_enter Tryz.func101, Tryz.ntmps101
  go_wp2_with fail
  refine (HO.out _).mono ?_; rintro e w1 ⟨rfl, hb⟩
  go_wp2_with fail
  go_ret
  exact ⟨rfl, hb⟩
set_option maxRecDepth 100000 in
set_option maxHeartbeats 1000000 in
theorem rb_leaf (V : List Cel) (b off cap : Nat) (W : World) (k d : Nat) (kk : Nat) (nx tx : ByteArray) (nu mn : Int)
    (hk : k < V.length) (hl : V.length ≤ 100000) (hd : d ≤ 16)
    (c0 : W.cell? ⟨b, off + k * 5, none⟩ = some (.int .u8 (kk : Int))) (c1 : W.cell? ⟨b, off + k * 5 + 1, none⟩ = some (.string nx)) (c2 : W.cell? ⟨b, off + k * 5 + 2, none⟩ = some (.string tx)) (c3 : W.cell? ⟨b, off + k * 5 + 3, none⟩ = some (.int .i64 nu)) (c4 : W.cell? ⟨b, off + k * 5 + 4, none⟩ = some (.int .i64 mn))
    (HO : Hid (∀ w : World, Calls Tryz.prog 112 #[.agg #[.int .u8 (kk : Int), .string nx, .string tx, .int .i64 nu, .int .i64 mn]] w fun e w' => e = .returned (.bool true) ∧ Below w.heap.size w w'))
    (h6 : ((kk : Int) != 6) = true) (h7 : ((kk : Int) != 7) = true) :
    Calls Tryz.prog 101 #[.slice (some ⟨b, off, none⟩) V.length cap, .int .i64 (k : Int), .int .i64 (d : Int)] W fun e w' => e = .returned (.int .i64 ((k : Int) + 1)) ∧ Below W.heap.size W w' := by
  go_enter Tryz.func101, Tryz.ntmps101
  go_wp2_with fail
  refine (HO.out _).mono ?_; rintro e w1 ⟨rfl, hb⟩
  have hz1 := hb.size
  have d0 := (hb.cell (p := ⟨b, _, none⟩) (lt_of_cell c0)).trans c0
  have d1 := (hb.cell (p := ⟨b, _, none⟩) (lt_of_cell c1)).trans c1
  have d2 := (hb.cell (p := ⟨b, _, none⟩) (lt_of_cell c2)).trans c2
  have d3 := (hb.cell (p := ⟨b, _, none⟩) (lt_of_cell c3)).trans c3
  have d4 := (hb.cell (p := ⟨b, _, none⟩) (lt_of_cell c4)).trans c4
  have HB1 := Lib.hid hb
  clear hb c0 c1 c2 c3 c4
  go_wp2_with fail
  go_ret
  exact ⟨rfl, HB1.out.alloc hz1 _⟩
set_option maxRecDepth 100000 in
set_option maxHeartbeats 1000000 in
theorem rb_deep6 (V : List Cel) (b off cap : Nat) (W : World) (k d : Nat) (kk : Nat) (nx tx : ByteArray) (nu mn : Int)
    (hk : k < V.length) (hl : V.length ≤ 100000) (hd : d ≤ 16)
    (c0 : W.cell? ⟨b, off + k * 5, none⟩ = some (.int .u8 (kk : Int))) (c1 : W.cell? ⟨b, off + k * 5 + 1, none⟩ = some (.string nx)) (c2 : W.cell? ⟨b, off + k * 5 + 2, none⟩ = some (.string tx)) (c3 : W.cell? ⟨b, off + k * 5 + 3, none⟩ = some (.int .i64 nu)) (c4 : W.cell? ⟨b, off + k * 5 + 4, none⟩ = some (.int .i64 mn))
    (HO : Hid (∀ w : World, Calls Tryz.prog 112 #[.agg #[.int .u8 (kk : Int), .string nx, .string tx, .int .i64 nu, .int .i64 mn]] w fun e w' => e = .returned (.bool true) ∧ Below w.heap.size w w'))
    (h6 : ((kk : Int) != 6) = false) (h7 : ((kk : Int) != 7) = true) (t6 : ((kk : Int) == 6) = true) (t7 : ((kk : Int) == 7) = false) (hd0 : ((d : Int) == 0) = true) :
    Calls Tryz.prog 101 #[.slice (some ⟨b, off, none⟩) V.length cap, .int .i64 (k : Int), .int .i64 (d : Int)] W fun e w' => e = .returned (.int .i64 (-1)) ∧ Below W.heap.size W w' := by
  go_enter Tryz.func101, Tryz.ntmps101
  go_wp2_with fail
  refine (HO.out _).mono ?_; rintro e w1 ⟨rfl, hb⟩
  have hz1 := hb.size
  have d0 := (hb.cell (p := ⟨b, _, none⟩) (lt_of_cell c0)).trans c0
  have d1 := (hb.cell (p := ⟨b, _, none⟩) (lt_of_cell c1)).trans c1
  have d2 := (hb.cell (p := ⟨b, _, none⟩) (lt_of_cell c2)).trans c2
  have d3 := (hb.cell (p := ⟨b, _, none⟩) (lt_of_cell c3)).trans c3
  have d4 := (hb.cell (p := ⟨b, _, none⟩) (lt_of_cell c4)).trans c4
  have HB1 := Lib.hid hb
  clear hb c0 c1 c2 c3 c4
  go_wp2_with fail
  go_ret
  exact ⟨rfl, HB1.out.alloc hz1 _⟩
set_option maxRecDepth 100000 in
set_option maxHeartbeats 1000000 in
theorem rb_deep7 (V : List Cel) (b off cap : Nat) (W : World) (k d : Nat) (kk : Nat) (nx tx : ByteArray) (nu mn : Int)
    (hk : k < V.length) (hl : V.length ≤ 100000) (hd : d ≤ 16)
    (c0 : W.cell? ⟨b, off + k * 5, none⟩ = some (.int .u8 (kk : Int))) (c1 : W.cell? ⟨b, off + k * 5 + 1, none⟩ = some (.string nx)) (c2 : W.cell? ⟨b, off + k * 5 + 2, none⟩ = some (.string tx)) (c3 : W.cell? ⟨b, off + k * 5 + 3, none⟩ = some (.int .i64 nu)) (c4 : W.cell? ⟨b, off + k * 5 + 4, none⟩ = some (.int .i64 mn))
    (HO : Hid (∀ w : World, Calls Tryz.prog 112 #[.agg #[.int .u8 (kk : Int), .string nx, .string tx, .int .i64 nu, .int .i64 mn]] w fun e w' => e = .returned (.bool true) ∧ Below w.heap.size w w'))
    (h6 : ((kk : Int) != 6) = true) (h7 : ((kk : Int) != 7) = false) (t6 : ((kk : Int) == 6) = false) (t7 : ((kk : Int) == 7) = true) (hd0 : ((d : Int) == 0) = true) :
    Calls Tryz.prog 101 #[.slice (some ⟨b, off, none⟩) V.length cap, .int .i64 (k : Int), .int .i64 (d : Int)] W fun e w' => e = .returned (.int .i64 (-1)) ∧ Below W.heap.size W w' := by
  go_enter Tryz.func101, Tryz.ntmps101
  go_wp2_with fail
  refine (HO.out _).mono ?_; rintro e w1 ⟨rfl, hb⟩
  have hz1 := hb.size
  have d0 := (hb.cell (p := ⟨b, _, none⟩) (lt_of_cell c0)).trans c0
  have d1 := (hb.cell (p := ⟨b, _, none⟩) (lt_of_cell c1)).trans c1
  have d2 := (hb.cell (p := ⟨b, _, none⟩) (lt_of_cell c2)).trans c2
  have d3 := (hb.cell (p := ⟨b, _, none⟩) (lt_of_cell c3)).trans c3
  have d4 := (hb.cell (p := ⟨b, _, none⟩) (lt_of_cell c4)).trans c4
  have HB1 := Lib.hid hb
  clear hb c0 c1 c2 c3 c4
  go_wp2_with fail
  go_ret
  exact ⟨rfl, HB1.out.alloc hz1 _⟩
set_option maxRecDepth 100000 in
set_option maxHeartbeats 1000000 in
theorem rb_list (V : List Cel) (b off cap : Nat) (W : World) (k d : Nat) (kk : Nat) (nx tx : ByteArray) (nu : Int) (m : Nat)
    (hk : k < V.length) (hl : V.length ≤ 100000) (hd : d ≤ 16)
    (c0 : W.cell? ⟨b, off + k * 5, none⟩ = some (.int .u8 (kk : Int))) (c1 : W.cell? ⟨b, off + k * 5 + 1, none⟩ = some (.string nx)) (c2 : W.cell? ⟨b, off + k * 5 + 2, none⟩ = some (.string tx)) (c3 : W.cell? ⟨b, off + k * 5 + 3, none⟩ = some (.int .i64 nu)) (c4 : W.cell? ⟨b, off + k * 5 + 4, none⟩ = some (.int .i64 (m : Int)))
    (HO : Hid (∀ w : World, Calls Tryz.prog 112 #[.agg #[.int .u8 (kk : Int), .string nx, .string tx, .int .i64 nu, .int .i64 (m : Int)]] w fun e w' => e = .returned (.bool true) ∧ Below w.heap.size w w'))
    (h6 : ((kk : Int) != 6) = false) (h7 : ((kk : Int) != 7) = true) (t6 : ((kk : Int) == 6) = true) (t7 : ((kk : Int) == 7) = false)
    (hd1 : 0 < d) (hmx : (m : Int) ≤ 9223372036854775807) (HROW : Hid (CelRow b off V W)) (HSM : Hid (∀ c ∈ V, c.name.length ≤ 100000)) (o : Option Nat) (hkids : kidsN (valN (d - 1)) true m [] (V.drop (k + 1)) = o) (hval : valN d (V.drop k) = o.map (1 + ·))
    (HTX : Hid (∀ (W' : World) (x : ByteArray), x.size ≤ 100000 → Calls Tryz.prog 113 #[.string x] W' fun e w' => e = .returned (.bool (textB x.data.toList)) ∧ Below W'.heap.size W' w'))
    (HIH : Hid (∀ (W' : World) (p : Nat), p < V.length → CelRow b off V W' → Calls Tryz.prog 101 #[.slice (some ⟨b, off, none⟩) V.length cap, .int .i64 (p : Int), .int .i64 ((d : Int) - 1)] W' fun e w' => e = .returned (.int .i64 (endI V p (d - 1))) ∧ Below W'.heap.size W' w')) :
    Calls Tryz.prog 101 #[.slice (some ⟨b, off, none⟩) V.length cap, .int .i64 (k : Int), .int .i64 (d : Int)] W fun e w' => e = .returned (.int .i64 (endI V k d)) ∧ Below W.heap.size W w' := by
  obtain ⟨R, hR⟩ : ∃ R, endI V k d = R := ⟨_, rfl⟩
  have HRN : Hid (o = none → -1 = R) := Lib.hid fun h => by rw [← hR, endI_none (by rw [hval, h]; rfl)]
  have HRS : Hid (∀ u, o = some u → ((k + 1 + u : Nat) : Int) = R) := Lib.hid fun u h => by rw [← hR, endI_some (n := 1 + u) (by rw [hval, h]; rfl)]; omega
  have HK0 := Lib.hid (KS.start hkids)
  rw [hR]
  have hd2 : ((d : Int) == 0) = false := by rw [beq_eq_false_iff_ne]; omega
  have hgk : decide (V.length ≤ k) = false := decide_eq_false (by omega)
  have hk0 : decide ((k : Int) < 0) = false := decide_eq_false (by omega)
  clear hR hval hkids
  go_enter Tryz.func101, Tryz.ntmps101
  go_wp2_with fail
  refine (HO.out _).mono ?_; rintro e w1 ⟨rfl, hb⟩
  have hz1 := hb.size
  have d0 := (hb.cell (p := ⟨b, _, none⟩) (lt_of_cell c0)).trans c0
  have d1 := (hb.cell (p := ⟨b, _, none⟩) (lt_of_cell c1)).trans c1
  have d2 := (hb.cell (p := ⟨b, _, none⟩) (lt_of_cell c2)).trans c2
  have d3 := (hb.cell (p := ⟨b, _, none⟩) (lt_of_cell c3)).trans c3
  have d4 := (hb.cell (p := ⟨b, _, none⟩) (lt_of_cell c4)).trans c4
  have HB1 := Lib.hid hb
  clear hb c0 c1 c2 c3 c4
  go_wp2_with fail
  obtain ⟨wc, hwc⟩ : ∃ wc, w1.alloc (.cells #[.int .u8 (kk : Int), .string nx, .string tx, .int .i64 nu, .int .i64 (m : Int)] 78) = wc := ⟨_, rfl⟩
  have hc : wc.heap[w1.heap.size]? = some (.cells #[.int .u8 (kk : Int), .string nx, .string tx, .int .i64 nu, .int .i64 (m : Int)] 78 (0, 0)) := by rw [← hwc]; exact heap_alloc_new w1 _
  have hbc : Below W.heap.size W wc := by rw [← hwc]; exact HB1.out.alloc hz1 _
  have hcz : W.heap.size ≤ w1.heap.size ∧ w1.heap.size < wc.heap.size := ⟨hz1, heap_lt hc⟩
  obtain ⟨cb, hcb⟩ : ∃ cb, w1.heap.size = cb := ⟨_, rfl⟩
  rw [hcb] at hc hcz
  rw [hwc, hcb]
  have HC := Lib.hid hc
  have HBC := Lib.hid hbc
  clear hwc hc hbc d0 d1 d2 d3 d4 HB1 hz1 hcb
  go_loopg [1, 8, 9] m (fun gk at_ nv ct wr => ∃ (j p u : Nat) (ov : Value) (nm : List ByteArray) (nl : List (List UInt8)), ov = nv ∧ at_ = .int .i64 (p : Int) ∧ ct = .int .i64 j ∧ gk + j = m ∧ p ≤ V.length ∧ Hid (p = k + 1 + u) ∧ j ≤ u ∧ nm.length ≤ j ∧ Hid (KS V (d - 1) k true o gk nl u) ∧ nm = [] ∧ Hid (OwnS wc.heap.size ov nm wr) ∧ Hid (Below wc.heap.size wc wr))
  case atStart => exact ⟨0, k + 1, 0, _, [], [], rfl, by go_num, rfl, by omega, by omega, Lib.hid rfl, Nat.le_refl _, Nat.le_refl _, HK0, rfl, Lib.hid (OwnS.nil _ _), Lib.hid (Below.refl _ _)⟩
  case round =>
    rename World => wr
    obtain ⟨j, p, u, ov, nm, nl, rfl, rfl, rfl, hj, hp, HPU, hju, hnm, HK, rfl, HO2, HB⟩ := hrel
    have hwz := HB.out.size
    have e4 : wr.cell? ⟨cb, 4, none⟩ = some (.int .i64 (m : Int)) := by rw [Lib.cell_of_heap ((HB.out.block _ hcz.2).trans HC.out)]; rfl
    have e0 : wr.cell? ⟨cb, 0, none⟩ = some (.int .u8 (kk : Int)) := by rw [Lib.cell_of_heap ((HB.out.block _ hcz.2).trans HC.out)]; rfl
    have HBW : Hid (Below W.heap.size W wr) := Lib.hid (HBC.out.trans (HB.out.mono HBC.out.size))
    by_cases hg0 : gk = 0
    · subst hg0
      have HF := Lib.hid (HRS.out u HK.out.done)
      have HF2 : Hid ((p : Int) = R) := Lib.hid (by rw [← HF.out, HPU.out])
      clear HF
      go_wp2_with fail
      go_ret
      exact ⟨ret_i HF2.out, HBW.out⟩
    · obtain ⟨g1, rfl⟩ : ∃ g1, gk = g1 + 1 := ⟨gk - 1, by omega⟩
      have hjm : j < m := by omega
      clear hg0
      by_cases hpl : p < V.length
      · have hrow := HROW.out.below' HBW.out
        obtain ⟨_, r1, _⟩ := hrow p hpl
        have HRW := Lib.hid hrow
        have hxz : (⟨V[p].name.toArray⟩ : ByteArray).size = V[p].name.length := by show V[p].name.toArray.size = _; simp
        have hxl : (⟨V[p].name.toArray⟩ : ByteArray).data.toList = V[p].name := by simp
        have hxs : (⟨V[p].name.toArray⟩ : ByteArray).size ≤ 100000 := by rw [hxz]; exact HSM.out _ (List.getElem_mem _)
        have HBAD := Lib.hid (fun h => HK.out.bad HPU.out hpl h)
        have HFAIL := Lib.hid (fun h h' => HK.out.fail HPU.out hpl h h')
        have HNEXT := Lib.hid (fun n h h' => HK.out.next (n := n) HPU.out hpl h h')
        rw [← hxl] at HBAD HFAIL HNEXT
        have hu : u ≤ 100000 := by have := HPU.out; omega
        clear hxz hxl hrow
        generalize (⟨V[p].name.toArray⟩ : ByteArray) = x at *
        have HS0 : Hid (wr.drew.cell? ⟨b, off + p * 5 + 1, none⟩ = some (.string x) ∧ wr.drew.cell? ⟨cb, 0, none⟩ = some (.int .u8 (kk : Int)) ∧ Below wr.heap.size wr wr.drew) := Lib.hid ⟨r1, e0, ⟨rfl, rfl, rfl, Nat.le_refl _, fun _ _ => rfl⟩⟩
        have hge : decide (V.length ≤ p) = false := decide_eq_false (by omega)
        have HT := Lib.hid (fun W' => HTX.out W' x hxs)
        have HA : Hid (∀ W', Below wr.heap.size wr W' → Calls Tryz.prog 114 #[ov, .string x] W' fun e w' => e = .returned (.bool (amongS [] x)) ∧ W' = w') := Lib.hid fun W' hW => ramong03_any [] ov x W' (by first | omega | simp) (HO2.out.sl.below hW)
        rcases empty_z x with ⟨z0, z1, z2, z3⟩ | ⟨z0, z1, z2, z3⟩
        · have hne : x.data.toList.isEmpty = false := by rw [← ByteArray.toList_eq]; exact z2
          have HO3 := Lib.hid (HBAD.out (by unfold okN; rw [if_pos rfl]; exact hne))
          clear hne
          go_wp2_with fail
          refine wp_region_held_drew (S := fun W => W.cell? ⟨b, off + p * 5 + 1, none⟩ = some (.string x) ∧ W.cell? ⟨cb, 0, none⟩ = some (.int .u8 (kk : Int)) ∧ Below wr.heap.size wr W) (by kernel_rfl) (HS0.out) (fun hHeld => ?_)
          refine tky 0 (some 49) (v := ?_) rfl (by kernel_rfl) (by kernel_rfl) (by kernel_rfl) (fun _ _ _ h => h) ?_ hHeld ?_
          rotate_left
          focus (intro w hSw; (try dsimp only at hSw); go_simp; (try with_reducible rfl); done)
          go_frame
          refine tky 1 (some 50) (v := ?_) rfl (by kernel_rfl) (by kernel_rfl) (by kernel_rfl) (fun _ _ _ h => h) ?_ hHeld ?_
          rotate_left
          focus (intro w hSw; (try dsimp only at hSw); go_simp; (try with_reducible rfl); done)
          go_frame
          refine tky 2 (some 51) (v := ?_) rfl (by kernel_rfl) (by kernel_rfl) (by kernel_rfl) (fun _ _ _ h => h) ?_ hHeld ?_
          rotate_left
          focus (intro w hSw; (try dsimp only at hSw); go_simp; (try with_reducible rfl); done)
          go_frame
          refine tky 3 (some 52) (v := ?_) rfl (by kernel_rfl) (by kernel_rfl) (by kernel_rfl) (fun _ _ _ h => h) ?_ hHeld ?_
          rotate_left
          focus (intro w hSw; (try dsimp only at hSw); go_simp; (try with_reducible rfl); done)
          go_frame
          refine tky 4 (some 53) (v := ?_) rfl (by kernel_rfl) (by kernel_rfl) (by kernel_rfl) (fun _ _ _ h => h) ?_ hHeld ?_
          rotate_left
          focus (intro w hSw; (try dsimp only at hSw); go_simp; (try with_reducible rfl); done)
          go_frame
          refine tky 5 (some 54) (v := ?_) rfl (by kernel_rfl) (by kernel_rfl) (by kernel_rfl) (fun _ _ _ h => h) ?_ hHeld ?_
          rotate_left
          focus (intro w hSw; (try dsimp only at hSw); go_simp; (try with_reducible rfl); done)
          go_frame
          refine tky 6 (some 55) (v := ?_) rfl (by kernel_rfl) (by kernel_rfl) (by kernel_rfl) (fun _ _ _ h => h) ?_ hHeld ?_
          rotate_left
          focus (intro w hSw; (try dsimp only at hSw); go_simp; (try with_reducible rfl); done)
          go_frame
          refine tky 7 (some 56) (v := ?_) rfl (by kernel_rfl) (by kernel_rfl) (by kernel_rfl) (fun _ _ _ h => h) ?_ hHeld ?_
          rotate_left
          focus (intro w hSw; (try dsimp only at hSw); go_simp; (try with_reducible rfl); done)
          go_frame
          refine tky 8 (some 57) (v := ?_) rfl (by kernel_rfl) (by kernel_rfl) (by kernel_rfl) (fun _ _ _ h => h) ?_ hHeld ?_
          rotate_left
          focus (intro w hSw; (try dsimp only at hSw); go_simp; (try with_reducible rfl); done)
          go_frame
          refine tky 9 (some 58) (v := ?_) rfl (by kernel_rfl) (by kernel_rfl) (by kernel_rfl) (fun _ _ _ h => h) ?_ hHeld ?_
          rotate_left
          focus (intro w hSw; (try dsimp only at hSw); go_simp; (try with_reducible rfl); done)
          go_frame
          refine tky 10 (some 59) (v := ?_) rfl (by kernel_rfl) (by kernel_rfl) (by kernel_rfl) (fun _ _ _ h => h) ?_ hHeld ?_
          rotate_left
          focus (intro w hSw; (try dsimp only at hSw); go_simp; (try with_reducible rfl); done)
          go_frame
          refine tky 11 (some 60) (v := ?_) rfl (by kernel_rfl) (by kernel_rfl) (by kernel_rfl) (fun _ _ _ h => h) ?_ hHeld ?_
          rotate_left
          focus (intro w hSw; (try dsimp only at hSw); go_simp; (try with_reducible rfl); done)
          go_frame
          refine tky 12 (some 61) (v := ?_) rfl (by kernel_rfl) (by kernel_rfl) (by kernel_rfl) (fun _ _ _ h => h) ?_ hHeld ?_
          rotate_left
          focus (intro w hSw; (try dsimp only at hSw); go_simp; (try with_reducible rfl); done)
          go_frame
          refine tky 13 (some 62) (v := ?_) rfl (by kernel_rfl) (by kernel_rfl) (by kernel_rfl) (fun _ _ _ h => h) ?_ hHeld ?_
          rotate_left
          focus (intro w hSw; (try dsimp only at hSw); go_simp; (try with_reducible rfl); done)
          go_frame
          refine tky 14 (some 63) (v := ?_) rfl (by kernel_rfl) (by kernel_rfl) (by kernel_rfl) (fun _ _ _ h => h) ?_ hHeld ?_
          rotate_left
          focus (intro w hSw; (try dsimp only at hSw); go_simp; (try with_reducible rfl); done)
          go_frame
          refine tky 15 (some 64) (v := ?_) rfl (by kernel_rfl) (by kernel_rfl) (by kernel_rfl) (fun _ _ _ h => h) ?_ hHeld ?_
          rotate_left
          focus (intro w hSw; (try dsimp only at hSw); go_simp; (try with_reducible rfl); done)
          go_frame
          refine tky 16 (some 65) (v := ?_) rfl (by kernel_rfl) (by kernel_rfl) (by kernel_rfl) (fun _ _ _ h => h) ?_ hHeld ?_
          rotate_left
          focus (intro w hSw; (try dsimp only at hSw); go_simp; (try with_reducible rfl); done)
          go_frame
          refine tkn 17 (some 66) rfl (by kernel_rfl) (by kernel_rfl) (by kernel_rfl) (fun _ _ _ h => h) hHeld ?_
          go_frame
          refine tkn 18 (some 67) rfl (by kernel_rfl) (by kernel_rfl) (by kernel_rfl) (fun _ _ _ h => h) hHeld ?_
          go_frame
          refine tkn 19 (some 68) rfl (by kernel_rfl) (by kernel_rfl) (by kernel_rfl) (fun _ _ _ h => h) hHeld ?_
          go_frame
          refine tkn 20 (some 69) rfl (by kernel_rfl) (by kernel_rfl) (by kernel_rfl) (fun _ _ _ h => h) hHeld ?_
          go_frame
          refine tkn 21 (some 70) rfl (by kernel_rfl) (by kernel_rfl) (by kernel_rfl) (fun _ _ _ h => h) hHeld ?_
          go_frame
          refine tkn 22 (some 71) rfl (by kernel_rfl) (by kernel_rfl) (by kernel_rfl) (fun _ _ _ h => h) hHeld ?_
          go_frame
          refine tkn 23 (some 72) rfl (by kernel_rfl) (by kernel_rfl) (by kernel_rfl) (fun _ _ _ h => h) hHeld ?_
          go_frame
          refine tky 24 (some 73) (v := ?_) rfl (by kernel_rfl) (by kernel_rfl) (by kernel_rfl) (fun _ _ _ h => h) ?_ hHeld ?_
          rotate_left
          focus (intro w hSw; (try dsimp only at hSw); go_simp; (try with_reducible rfl); done)
          go_frame
          refine tky 25 (some 74) (v := ?_) rfl (by kernel_rfl) (by kernel_rfl) (by kernel_rfl) (fun _ _ _ h => h) ?_ hHeld ?_
          rotate_left
          focus (intro w hSw; (try dsimp only at hSw); go_simp; (try with_reducible rfl); done)
          go_frame
          refine tkn 26 (some 75) rfl (by kernel_rfl) (by kernel_rfl) (by kernel_rfl) (fun _ _ _ h => h) hHeld ?_
          go_frame
          refine tkn 27 (some 76) rfl (by kernel_rfl) (by kernel_rfl) (by kernel_rfl) (fun _ _ _ h => h) hHeld ?_
          go_frame
          refine tkn 28 (some 77) rfl (by kernel_rfl) (by kernel_rfl) (by kernel_rfl) (fun _ _ _ h => h) hHeld ?_
          go_frame
          refine tkn 29 (some 78) rfl (by kernel_rfl) (by kernel_rfl) (by kernel_rfl) (fun _ _ _ h => h) hHeld ?_
          go_frame
          refine tkn 30 (some 79) rfl (by kernel_rfl) (by kernel_rfl) (by kernel_rfl) (fun _ _ _ h => h) hHeld ?_
          go_frame
          refine tkn 31 (some 80) rfl (by kernel_rfl) (by kernel_rfl) (by kernel_rfl) (fun _ _ _ h => h) hHeld ?_
          go_frame
          refine tkn 32 (some 81) rfl (by kernel_rfl) (by kernel_rfl) (by kernel_rfl) (fun _ _ _ h => h) hHeld ?_
          go_frame
          refine tky 33 (some 82) (v := ?_) rfl (by kernel_rfl) (by kernel_rfl) (by kernel_rfl) (fun _ _ _ h => h) ?_ hHeld ?_
          rotate_left
          focus (intro w hSw; (try dsimp only at hSw); go_simp; (try with_reducible rfl); done)
          go_frame
          refine wpAnyH_done (by kernel_rfl) ?_ _
          have HBX := Lib.hid (HBW.out.trans (hHeld.2.2.mono HBW.out.size))
          clear hHeld
          have HF := Lib.hid (HRN.out HO3.out)
          go_wp2_with fail
          go_ret
          exact ⟨ret_i HF.out, HBX.out⟩
        · have HOK : Hid (okN true nl x.data.toList = true) := Lib.hid (by rw [z3]; rfl)
          have htt : textB x.data.toList = true := by rw [z3]; rfl
          rw [htt] at HT
          have hat : amongS [] x = false := rfl
          rw [hat] at HA
          clear htt hat
          go_wp2_with fail
          refine wp_region_held_drew (S := fun W => W.cell? ⟨b, off + p * 5 + 1, none⟩ = some (.string x) ∧ W.cell? ⟨cb, 0, none⟩ = some (.int .u8 (kk : Int)) ∧ Below wr.heap.size wr W) (by kernel_rfl) (HS0.out) (fun hHeld => ?_)
          refine tky 0 (some 49) (v := ?_) rfl (by kernel_rfl) (by kernel_rfl) (by kernel_rfl) (fun _ _ _ h => h) ?_ hHeld ?_
          rotate_left
          focus (intro w hSw; (try dsimp only at hSw); go_simp; (try with_reducible rfl); done)
          go_frame
          refine tky 1 (some 50) (v := ?_) rfl (by kernel_rfl) (by kernel_rfl) (by kernel_rfl) (fun _ _ _ h => h) ?_ hHeld ?_
          rotate_left
          focus (intro w hSw; (try dsimp only at hSw); go_simp; (try with_reducible rfl); done)
          go_frame
          refine tky 2 (some 51) (v := ?_) rfl (by kernel_rfl) (by kernel_rfl) (by kernel_rfl) (fun _ _ _ h => h) ?_ hHeld ?_
          rotate_left
          focus (intro w hSw; (try dsimp only at hSw); go_simp; (try with_reducible rfl); done)
          go_frame
          refine tky 3 (some 52) (v := ?_) rfl (by kernel_rfl) (by kernel_rfl) (by kernel_rfl) (fun _ _ _ h => h) ?_ hHeld ?_
          rotate_left
          focus (intro w hSw; (try dsimp only at hSw); go_simp; (try with_reducible rfl); done)
          go_frame
          refine tky 4 (some 53) (v := ?_) rfl (by kernel_rfl) (by kernel_rfl) (by kernel_rfl) (fun _ _ _ h => h) ?_ hHeld ?_
          rotate_left
          focus (intro w hSw; (try dsimp only at hSw); go_simp; (try with_reducible rfl); done)
          go_frame
          refine tky 5 (some 54) (v := ?_) rfl (by kernel_rfl) (by kernel_rfl) (by kernel_rfl) (fun _ _ _ h => h) ?_ hHeld ?_
          rotate_left
          focus (intro w hSw; (try dsimp only at hSw); go_simp; (try with_reducible rfl); done)
          go_frame
          refine tky 6 (some 55) (v := ?_) rfl (by kernel_rfl) (by kernel_rfl) (by kernel_rfl) (fun _ _ _ h => h) ?_ hHeld ?_
          rotate_left
          focus (intro w hSw; (try dsimp only at hSw); go_simp; (try with_reducible rfl); done)
          go_frame
          refine tky 7 (some 56) (v := ?_) rfl (by kernel_rfl) (by kernel_rfl) (by kernel_rfl) (fun _ _ _ h => h) ?_ hHeld ?_
          rotate_left
          focus (intro w hSw; (try dsimp only at hSw); go_simp; (try with_reducible rfl); done)
          go_frame
          refine tky 8 (some 57) (v := ?_) rfl (by kernel_rfl) (by kernel_rfl) (by kernel_rfl) (fun _ _ _ h => h) ?_ hHeld ?_
          rotate_left
          focus (intro w hSw; (try dsimp only at hSw); go_simp; (try with_reducible rfl); done)
          go_frame
          refine tky 9 (some 58) (v := ?_) rfl (by kernel_rfl) (by kernel_rfl) (by kernel_rfl) (fun _ _ _ h => h) ?_ hHeld ?_
          rotate_left
          focus (intro w hSw; (try dsimp only at hSw); go_simp; (try with_reducible rfl); done)
          go_frame
          refine tky 10 (some 59) (v := ?_) rfl (by kernel_rfl) (by kernel_rfl) (by kernel_rfl) (fun _ _ _ h => h) ?_ hHeld ?_
          rotate_left
          focus (intro w hSw; (try dsimp only at hSw); go_simp; (try with_reducible rfl); done)
          go_frame
          refine tky 11 (some 60) (v := ?_) rfl (by kernel_rfl) (by kernel_rfl) (by kernel_rfl) (fun _ _ _ h => h) ?_ hHeld ?_
          rotate_left
          focus (intro w hSw; (try dsimp only at hSw); go_simp; (try with_reducible rfl); done)
          go_frame
          refine tky 12 (some 61) (v := ?_) rfl (by kernel_rfl) (by kernel_rfl) (by kernel_rfl) (fun _ _ _ h => h) ?_ hHeld ?_
          rotate_left
          focus (intro w hSw; (try dsimp only at hSw); go_simp; (try with_reducible rfl); done)
          go_frame
          refine tky 13 (some 62) (v := ?_) rfl (by kernel_rfl) (by kernel_rfl) (by kernel_rfl) (fun _ _ _ h => h) ?_ hHeld ?_
          rotate_left
          focus (intro w hSw; (try dsimp only at hSw); go_simp; (try with_reducible rfl); done)
          go_frame
          refine tky 14 (some 63) (v := ?_) rfl (by kernel_rfl) (by kernel_rfl) (by kernel_rfl) (fun _ _ _ h => h) ?_ hHeld ?_
          rotate_left
          focus (intro w hSw; (try dsimp only at hSw); go_simp; (try with_reducible rfl); done)
          go_frame
          refine tky 15 (some 64) (v := ?_) rfl (by kernel_rfl) (by kernel_rfl) (by kernel_rfl) (fun _ _ _ h => h) ?_ hHeld ?_
          rotate_left
          focus (intro w hSw; (try dsimp only at hSw); go_simp; (try with_reducible rfl); done)
          go_frame
          refine tky 16 (some 65) (v := ?_) rfl (by kernel_rfl) (by kernel_rfl) (by kernel_rfl) (fun _ _ _ h => h) ?_ hHeld ?_
          rotate_left
          focus (intro w hSw; (try dsimp only at hSw); go_simp; (try with_reducible rfl); done)
          go_frame
          refine tky 17 (some 66) (v := ?_) rfl (by kernel_rfl) (by kernel_rfl) (by kernel_rfl) (fun _ _ _ h => h) ?_ hHeld ?_
          rotate_left
          focus (intro w hSw; (try dsimp only at hSw); go_simp; (try with_reducible rfl); done)
          go_frame
          refine tky 18 (some 67) (v := ?_) rfl (by kernel_rfl) (by kernel_rfl) (by kernel_rfl) (fun _ _ _ h => h) ?_ hHeld ?_
          rotate_left
          focus (intro w hSw; (try dsimp only at hSw); go_simp; (try with_reducible rfl); done)
          go_frame
          refine tky 19 (some 68) (v := ?_) rfl (by kernel_rfl) (by kernel_rfl) (by kernel_rfl) (fun _ _ _ h => h) ?_ hHeld ?_
          rotate_left
          focus (intro w hSw; (try dsimp only at hSw); go_simp; (try with_reducible rfl); done)
          go_frame
          refine tky 20 (some 69) (v := ?_) rfl (by kernel_rfl) (by kernel_rfl) (by kernel_rfl) (fun _ _ _ h => h) ?_ hHeld ?_
          rotate_left
          focus (intro w hSw; (try dsimp only at hSw); go_simp; (try with_reducible rfl); done)
          go_frame
          refine tky 21 (some 70) (v := ?_) rfl (by kernel_rfl) (by kernel_rfl) (by kernel_rfl) (fun _ _ _ h => h) ?_ hHeld ?_
          rotate_left
          focus (intro w hSw; (try dsimp only at hSw); go_simp; (try with_reducible rfl); done)
          go_frame
          refine rcons 22 rfl (by kernel_rfl) (fun K hK => ?_)
          go_simp
          refine (HT.out _).mono ?_; rintro e wt ⟨rfl, hb⟩
          (try dsimp only)
          refine hK.out _ _ (keepR hb hHeld) (fun hHeld2 => ?_)
          clear hK K hHeld
          have hHeld := hHeld2
          clear hHeld2
          (try go_frame)
          refine tky 23 (some 72) (v := ?_) rfl (by kernel_rfl) (by kernel_rfl) (by kernel_rfl) (fun _ _ _ h => h) ?_ hHeld ?_
          rotate_left
          focus (intro w hSw; (try dsimp only at hSw); go_simp; (try with_reducible rfl); done)
          go_frame
          refine tky 24 (some 73) (v := ?_) rfl (by kernel_rfl) (by kernel_rfl) (by kernel_rfl) (fun _ _ _ h => h) ?_ hHeld ?_
          rotate_left
          focus (intro w hSw; (try dsimp only at hSw); go_simp; (try with_reducible rfl); done)
          go_frame
          refine tky 25 (some 74) (v := ?_) rfl (by kernel_rfl) (by kernel_rfl) (by kernel_rfl) (fun _ _ _ h => h) ?_ hHeld ?_
          rotate_left
          focus (intro w hSw; (try dsimp only at hSw); go_simp; (try with_reducible rfl); done)
          go_frame
          refine tky 26 (some 75) (v := ?_) rfl (by kernel_rfl) (by kernel_rfl) (by kernel_rfl) (fun _ _ _ h => h) ?_ hHeld ?_
          rotate_left
          focus (intro w hSw; (try dsimp only at hSw); go_simp; (try with_reducible rfl); done)
          go_frame
          refine tky 27 (some 76) (v := ?_) rfl (by kernel_rfl) (by kernel_rfl) (by kernel_rfl) (fun _ _ _ h => h) ?_ hHeld ?_
          rotate_left
          focus (intro w hSw; (try dsimp only at hSw); go_simp; (try with_reducible rfl); done)
          go_frame
          refine tky 28 (some 77) (v := ?_) rfl (by kernel_rfl) (by kernel_rfl) (by kernel_rfl) (fun _ _ _ h => h) ?_ hHeld ?_
          rotate_left
          focus (intro w hSw; (try dsimp only at hSw); go_simp; (try with_reducible rfl); done)
          go_frame
          refine tky 29 (some 78) (v := ?_) rfl (by kernel_rfl) (by kernel_rfl) (by kernel_rfl) (fun _ _ _ h => h) ?_ hHeld ?_
          rotate_left
          focus (intro w hSw; (try dsimp only at hSw); go_simp; (try with_reducible rfl); done)
          go_frame
          refine tky 30 (some 79) (v := ?_) rfl (by kernel_rfl) (by kernel_rfl) (by kernel_rfl) (fun _ _ _ h => h) ?_ hHeld ?_
          rotate_left
          focus (intro w hSw; (try dsimp only at hSw); go_simp; (try with_reducible rfl); done)
          go_frame
          refine tky 31 (some 80) (v := ?_) rfl (by kernel_rfl) (by kernel_rfl) (by kernel_rfl) (fun _ _ _ h => h) ?_ hHeld ?_
          rotate_left
          focus (intro w hSw; (try dsimp only at hSw); go_simp; (try with_reducible rfl); done)
          go_frame
          refine rcons 32 rfl (by kernel_rfl) (fun K hK => ?_)
          go_simp
          refine (HA.out _ hHeld.2.2).mono ?_; rintro e wa ⟨rfl, rfl⟩
          (try dsimp only)
          refine hK.out _ _ (hHeld) (fun hHeld2 => ?_)
          clear hK K hHeld
          have hHeld := hHeld2
          clear hHeld2
          (try go_frame)
          refine tky 33 (some 82) (v := ?_) rfl (by kernel_rfl) (by kernel_rfl) (by kernel_rfl) (fun _ _ _ h => h) ?_ hHeld ?_
          rotate_left
          focus (intro w hSw; (try dsimp only at hSw); go_simp; (try with_reducible rfl); done)
          go_frame
          refine wpAnyH_done (by kernel_rfl) ?_ _
          rename World => wt
          have HBT := Lib.hid hHeld.2.2
          have s0 := hHeld.2.1
          clear hHeld
          go_wp2_with fail
          cases hv : valN (d - 1) (V.drop p) with
          | none =>
            have HO3 := Lib.hid (HFAIL.out HOK.out hv)
            have HI : Hid (∀ W', CelRow b off V W' → Calls Tryz.prog 101 #[.slice (some ⟨b, off, none⟩) V.length cap, .int .i64 (p : Int), .int .i64 ((d : Int) - 1)] W' fun e w' => e = .returned (.int .i64 (-1)) ∧ Below W'.heap.size W' w') := Lib.hid fun W' h => by
              have := HIH.out W' p hpl h
              rw [endI_none hv] at this
              exact this
            have HF := Lib.hid (HRN.out HO3.out)
            clear hv
            refine (HI.out _ (HRW.out.below' HBT.out)).mono ?_; rintro e w6 ⟨rfl, hb6⟩
            have HB6 := Lib.hid (HBW.out.trans (Below.trans (HBT.out.mono HBW.out.size) (hb6.mono (Nat.le_trans HBW.out.size HBT.out.size))))
            clear hb6
            go_wp2_with fail
            go_ret
            exact ⟨ret_i HF.out, HB6.out⟩
          | some n =>
            have HO3 := Lib.hid (HNEXT.out n HOK.out hv)
            have HI : Hid (∀ W', CelRow b off V W' → Calls Tryz.prog 101 #[.slice (some ⟨b, off, none⟩) V.length cap, .int .i64 (p : Int), .int .i64 ((d : Int) - 1)] W' fun e w' => e = .returned (.int .i64 ((p + n : Nat) : Int)) ∧ Below W'.heap.size W' w') := Lib.hid fun W' h => by
              have := HIH.out W' p hpl h
              rw [endI_some hv] at this
              exact this
            have hn1 := (valN_le _ _ _ hv).1
            have hn2 := (valN_le _ _ _ hv).2
            rw [List.length_drop] at hn2
            obtain ⟨p2, hp2⟩ : ∃ p2, p + n = p2 := ⟨_, rfl⟩
            have HP2 : Hid (p2 = k + 1 + (u + n)) := Lib.hid (by rw [← hp2, HPU.out]; omega)
            have hp3 : p2 ≤ V.length := by omega
            rw [hp2] at HI
            clear hv hp2 hn2
            refine (HI.out _ (HRW.out.below' HBT.out)).mono ?_; rintro e w6 ⟨rfl, hb6⟩
            have HB6 := Lib.hid (HB.out.trans (Below.trans (HBT.out.mono hwz) (hb6.mono (Nat.le_trans hwz HBT.out.size))))
            have HO6 := Lib.hid ((HO2.out.below HBT.out).below hb6)
            clear hb6
            go_wp2_with fail
            go_roundg g1
            case measure => omega
            case rel => exact ⟨j + 1, p2, u + n, _, [], x.data.toList :: nl, rfl, rfl, by go_num, by omega, hp3, HP2, by omega, by simp, HO3, rfl, HO6, HB6⟩
      · have HO3 := Lib.hid (HK.out.out_ (by have := HPU.out; omega))
        have hge : decide (V.length ≤ p) = true := decide_eq_true (by omega)
        have HS0 : Hid (Below wr.heap.size wr wr.drew) := Lib.hid ⟨rfl, rfl, rfl, Nat.le_refl _, fun _ _ => rfl⟩
        go_wp2_with fail
        refine wp_region_held_drew (S := fun W => Below wr.heap.size wr W) (by kernel_rfl) (HS0.out) (fun hHeld => ?_)
        refine tky 0 (some 49) (v := ?_) rfl (by kernel_rfl) (by kernel_rfl) (by kernel_rfl) (fun _ _ _ h => h) ?_ hHeld ?_
        rotate_left
        focus (intro w hSw; (try dsimp only at hSw); go_simp; (try with_reducible rfl); done)
        go_frame
        refine tky 1 (some 50) (v := ?_) rfl (by kernel_rfl) (by kernel_rfl) (by kernel_rfl) (fun _ _ _ h => h) ?_ hHeld ?_
        rotate_left
        focus (intro w hSw; (try dsimp only at hSw); go_simp; (try with_reducible rfl); done)
        go_frame
        refine tky 2 (some 51) (v := ?_) rfl (by kernel_rfl) (by kernel_rfl) (by kernel_rfl) (fun _ _ _ h => h) ?_ hHeld ?_
        rotate_left
        focus (intro w hSw; (try dsimp only at hSw); go_simp; (try with_reducible rfl); done)
        go_frame
        refine tky 3 (some 52) (v := ?_) rfl (by kernel_rfl) (by kernel_rfl) (by kernel_rfl) (fun _ _ _ h => h) ?_ hHeld ?_
        rotate_left
        focus (intro w hSw; (try dsimp only at hSw); go_simp; (try with_reducible rfl); done)
        go_frame
        refine tky 4 (some 53) (v := ?_) rfl (by kernel_rfl) (by kernel_rfl) (by kernel_rfl) (fun _ _ _ h => h) ?_ hHeld ?_
        rotate_left
        focus (intro w hSw; (try dsimp only at hSw); go_simp; (try with_reducible rfl); done)
        go_frame
        refine tkn 5 (some 54) rfl (by kernel_rfl) (by kernel_rfl) (by kernel_rfl) (fun _ _ _ h => h) hHeld ?_
        go_frame
        refine tkn 6 (some 55) rfl (by kernel_rfl) (by kernel_rfl) (by kernel_rfl) (fun _ _ _ h => h) hHeld ?_
        go_frame
        refine tkn 7 (some 56) rfl (by kernel_rfl) (by kernel_rfl) (by kernel_rfl) (fun _ _ _ h => h) hHeld ?_
        go_frame
        refine tkn 8 (some 57) rfl (by kernel_rfl) (by kernel_rfl) (by kernel_rfl) (fun _ _ _ h => h) hHeld ?_
        go_frame
        refine tkn 9 (some 58) rfl (by kernel_rfl) (by kernel_rfl) (by kernel_rfl) (fun _ _ _ h => h) hHeld ?_
        go_frame
        refine tkn 10 (some 59) rfl (by kernel_rfl) (by kernel_rfl) (by kernel_rfl) (fun _ _ _ h => h) hHeld ?_
        go_frame
        refine tkn 11 (some 60) rfl (by kernel_rfl) (by kernel_rfl) (by kernel_rfl) (fun _ _ _ h => h) hHeld ?_
        go_frame
        refine tkn 12 (some 61) rfl (by kernel_rfl) (by kernel_rfl) (by kernel_rfl) (fun _ _ _ h => h) hHeld ?_
        go_frame
        refine tkn 13 (some 62) rfl (by kernel_rfl) (by kernel_rfl) (by kernel_rfl) (fun _ _ _ h => h) hHeld ?_
        go_frame
        refine tkn 14 (some 63) rfl (by kernel_rfl) (by kernel_rfl) (by kernel_rfl) (fun _ _ _ h => h) hHeld ?_
        go_frame
        refine tky 15 (some 64) (v := ?_) rfl (by kernel_rfl) (by kernel_rfl) (by kernel_rfl) (fun _ _ _ h => h) ?_ hHeld ?_
        rotate_left
        focus (intro w hSw; (try dsimp only at hSw); go_simp; (try with_reducible rfl); done)
        go_frame
        refine tky 16 (some 65) (v := ?_) rfl (by kernel_rfl) (by kernel_rfl) (by kernel_rfl) (fun _ _ _ h => h) ?_ hHeld ?_
        rotate_left
        focus (intro w hSw; (try dsimp only at hSw); go_simp; (try with_reducible rfl); done)
        go_frame
        refine tkn 17 (some 66) rfl (by kernel_rfl) (by kernel_rfl) (by kernel_rfl) (fun _ _ _ h => h) hHeld ?_
        go_frame
        refine tkn 18 (some 67) rfl (by kernel_rfl) (by kernel_rfl) (by kernel_rfl) (fun _ _ _ h => h) hHeld ?_
        go_frame
        refine tkn 19 (some 68) rfl (by kernel_rfl) (by kernel_rfl) (by kernel_rfl) (fun _ _ _ h => h) hHeld ?_
        go_frame
        refine tkn 20 (some 69) rfl (by kernel_rfl) (by kernel_rfl) (by kernel_rfl) (fun _ _ _ h => h) hHeld ?_
        go_frame
        refine tkn 21 (some 70) rfl (by kernel_rfl) (by kernel_rfl) (by kernel_rfl) (fun _ _ _ h => h) hHeld ?_
        go_frame
        refine tkn 22 (some 71) rfl (by kernel_rfl) (by kernel_rfl) (by kernel_rfl) (fun _ _ _ h => h) hHeld ?_
        go_frame
        refine tkn 23 (some 72) rfl (by kernel_rfl) (by kernel_rfl) (by kernel_rfl) (fun _ _ _ h => h) hHeld ?_
        go_frame
        refine tky 24 (some 73) (v := ?_) rfl (by kernel_rfl) (by kernel_rfl) (by kernel_rfl) (fun _ _ _ h => h) ?_ hHeld ?_
        rotate_left
        focus (intro w hSw; (try dsimp only at hSw); go_simp; (try with_reducible rfl); done)
        go_frame
        refine tky 25 (some 74) (v := ?_) rfl (by kernel_rfl) (by kernel_rfl) (by kernel_rfl) (fun _ _ _ h => h) ?_ hHeld ?_
        rotate_left
        focus (intro w hSw; (try dsimp only at hSw); go_simp; (try with_reducible rfl); done)
        go_frame
        refine tkn 26 (some 75) rfl (by kernel_rfl) (by kernel_rfl) (by kernel_rfl) (fun _ _ _ h => h) hHeld ?_
        go_frame
        refine tkn 27 (some 76) rfl (by kernel_rfl) (by kernel_rfl) (by kernel_rfl) (fun _ _ _ h => h) hHeld ?_
        go_frame
        refine tkn 28 (some 77) rfl (by kernel_rfl) (by kernel_rfl) (by kernel_rfl) (fun _ _ _ h => h) hHeld ?_
        go_frame
        refine tkn 29 (some 78) rfl (by kernel_rfl) (by kernel_rfl) (by kernel_rfl) (fun _ _ _ h => h) hHeld ?_
        go_frame
        refine tkn 30 (some 79) rfl (by kernel_rfl) (by kernel_rfl) (by kernel_rfl) (fun _ _ _ h => h) hHeld ?_
        go_frame
        refine tkn 31 (some 80) rfl (by kernel_rfl) (by kernel_rfl) (by kernel_rfl) (fun _ _ _ h => h) hHeld ?_
        go_frame
        refine tkn 32 (some 81) rfl (by kernel_rfl) (by kernel_rfl) (by kernel_rfl) (fun _ _ _ h => h) hHeld ?_
        go_frame
        refine tky 33 (some 82) (v := ?_) rfl (by kernel_rfl) (by kernel_rfl) (by kernel_rfl) (fun _ _ _ h => h) ?_ hHeld ?_
        rotate_left
        focus (intro w hSw; (try dsimp only at hSw); go_simp; (try with_reducible rfl); done)
        go_frame
        refine wpAnyH_done (by kernel_rfl) ?_ _
        have HBX := Lib.hid (HBW.out.trans (hHeld.mono HBW.out.size))
        clear hHeld
        have HF := Lib.hid (HRN.out HO3.out)
        go_wp2_with fail
        go_ret
        exact ⟨ret_i HF.out, HBX.out⟩
set_option maxRecDepth 100000 in
set_option maxHeartbeats 1000000 in
theorem rb_obj (V : List Cel) (b off cap : Nat) (W : World) (k d : Nat) (kk : Nat) (nx tx : ByteArray) (nu : Int) (m : Nat)
    (hk : k < V.length) (hl : V.length ≤ 100000) (hd : d ≤ 16)
    (c0 : W.cell? ⟨b, off + k * 5, none⟩ = some (.int .u8 (kk : Int))) (c1 : W.cell? ⟨b, off + k * 5 + 1, none⟩ = some (.string nx)) (c2 : W.cell? ⟨b, off + k * 5 + 2, none⟩ = some (.string tx)) (c3 : W.cell? ⟨b, off + k * 5 + 3, none⟩ = some (.int .i64 nu)) (c4 : W.cell? ⟨b, off + k * 5 + 4, none⟩ = some (.int .i64 (m : Int)))
    (HO : Hid (∀ w : World, Calls Tryz.prog 112 #[.agg #[.int .u8 (kk : Int), .string nx, .string tx, .int .i64 nu, .int .i64 (m : Int)]] w fun e w' => e = .returned (.bool true) ∧ Below w.heap.size w w'))
    (h6 : ((kk : Int) != 6) = true) (h7 : ((kk : Int) != 7) = false) (t6 : ((kk : Int) == 6) = false) (t7 : ((kk : Int) == 7) = true)
    (hd1 : 0 < d) (hmx : (m : Int) ≤ 9223372036854775807) (HROW : Hid (CelRow b off V W)) (HSM : Hid (∀ c ∈ V, c.name.length ≤ 100000)) (o : Option Nat) (hkids : kidsN (valN (d - 1)) false m [] (V.drop (k + 1)) = o) (hval : valN d (V.drop k) = o.map (1 + ·))
    (HTX : Hid (∀ (W' : World) (x : ByteArray), x.size ≤ 100000 → Calls Tryz.prog 113 #[.string x] W' fun e w' => e = .returned (.bool (textB x.data.toList)) ∧ Below W'.heap.size W' w'))
    (HIH : Hid (∀ (W' : World) (p : Nat), p < V.length → CelRow b off V W' → Calls Tryz.prog 101 #[.slice (some ⟨b, off, none⟩) V.length cap, .int .i64 (p : Int), .int .i64 ((d : Int) - 1)] W' fun e w' => e = .returned (.int .i64 (endI V p (d - 1))) ∧ Below W'.heap.size W' w')) :
    Calls Tryz.prog 101 #[.slice (some ⟨b, off, none⟩) V.length cap, .int .i64 (k : Int), .int .i64 (d : Int)] W fun e w' => e = .returned (.int .i64 (endI V k d)) ∧ Below W.heap.size W w' := by
  obtain ⟨R, hR⟩ : ∃ R, endI V k d = R := ⟨_, rfl⟩
  have HRN : Hid (o = none → -1 = R) := Lib.hid fun h => by rw [← hR, endI_none (by rw [hval, h]; rfl)]
  have HRS : Hid (∀ u, o = some u → ((k + 1 + u : Nat) : Int) = R) := Lib.hid fun u h => by rw [← hR, endI_some (n := 1 + u) (by rw [hval, h]; rfl)]; omega
  have HK0 := Lib.hid (KS.start hkids)
  rw [hR]
  have hd2 : ((d : Int) == 0) = false := by rw [beq_eq_false_iff_ne]; omega
  have hgk : decide (V.length ≤ k) = false := decide_eq_false (by omega)
  have hk0 : decide ((k : Int) < 0) = false := decide_eq_false (by omega)
  clear hR hval hkids
  go_enter Tryz.func101, Tryz.ntmps101
  go_wp2_with fail
  refine (HO.out _).mono ?_; rintro e w1 ⟨rfl, hb⟩
  have hz1 := hb.size
  have d0 := (hb.cell (p := ⟨b, _, none⟩) (lt_of_cell c0)).trans c0
  have d1 := (hb.cell (p := ⟨b, _, none⟩) (lt_of_cell c1)).trans c1
  have d2 := (hb.cell (p := ⟨b, _, none⟩) (lt_of_cell c2)).trans c2
  have d3 := (hb.cell (p := ⟨b, _, none⟩) (lt_of_cell c3)).trans c3
  have d4 := (hb.cell (p := ⟨b, _, none⟩) (lt_of_cell c4)).trans c4
  have HB1 := Lib.hid hb
  clear hb c0 c1 c2 c3 c4
  go_wp2_with fail
  obtain ⟨wc, hwc⟩ : ∃ wc, w1.alloc (.cells #[.int .u8 (kk : Int), .string nx, .string tx, .int .i64 nu, .int .i64 (m : Int)] 78) = wc := ⟨_, rfl⟩
  have hc : wc.heap[w1.heap.size]? = some (.cells #[.int .u8 (kk : Int), .string nx, .string tx, .int .i64 nu, .int .i64 (m : Int)] 78 (0, 0)) := by rw [← hwc]; exact heap_alloc_new w1 _
  have hbc : Below W.heap.size W wc := by rw [← hwc]; exact HB1.out.alloc hz1 _
  have hcz : W.heap.size ≤ w1.heap.size ∧ w1.heap.size < wc.heap.size := ⟨hz1, heap_lt hc⟩
  obtain ⟨cb, hcb⟩ : ∃ cb, w1.heap.size = cb := ⟨_, rfl⟩
  rw [hcb] at hc hcz
  rw [hwc, hcb]
  have HC := Lib.hid hc
  have HBC := Lib.hid hbc
  clear hwc hc hbc d0 d1 d2 d3 d4 HB1 hz1 hcb
  go_loopg [1, 8, 9] m (fun gk at_ nv ct wr => ∃ (j p u : Nat) (ov : Value) (nm : List ByteArray) (nl : List (List UInt8)), ov = nv ∧ at_ = .int .i64 (p : Int) ∧ ct = .int .i64 j ∧ gk + j = m ∧ p ≤ V.length ∧ Hid (p = k + 1 + u) ∧ j ≤ u ∧ nm.length ≤ j ∧ Hid (KS V (d - 1) k false o gk nl u) ∧ Hid (nl = (nm.map (·.data.toList)).reverse) ∧ Hid (OwnS wc.heap.size ov nm wr) ∧ Hid (Below wc.heap.size wc wr))
  case atStart => exact ⟨0, k + 1, 0, _, [], [], rfl, by go_num, rfl, by omega, by omega, Lib.hid rfl, Nat.le_refl _, Nat.le_refl _, HK0, Lib.hid rfl, Lib.hid (OwnS.nil _ _), Lib.hid (Below.refl _ _)⟩
  case round =>
    rename World => wr
    obtain ⟨j, p, u, ov, nm, nl, rfl, rfl, rfl, hj, hp, HPU, hju, hnm, HK, HNL, HO2, HB⟩ := hrel
    have hwz := HB.out.size
    have e4 : wr.cell? ⟨cb, 4, none⟩ = some (.int .i64 (m : Int)) := by rw [Lib.cell_of_heap ((HB.out.block _ hcz.2).trans HC.out)]; rfl
    have e0 : wr.cell? ⟨cb, 0, none⟩ = some (.int .u8 (kk : Int)) := by rw [Lib.cell_of_heap ((HB.out.block _ hcz.2).trans HC.out)]; rfl
    have HBW : Hid (Below W.heap.size W wr) := Lib.hid (HBC.out.trans (HB.out.mono HBC.out.size))
    by_cases hg0 : gk = 0
    · subst hg0
      have HF := Lib.hid (HRS.out u HK.out.done)
      have HF2 : Hid ((p : Int) = R) := Lib.hid (by rw [← HF.out, HPU.out])
      clear HF
      go_wp2_with fail
      go_ret
      exact ⟨ret_i HF2.out, HBW.out⟩
    · obtain ⟨g1, rfl⟩ : ∃ g1, gk = g1 + 1 := ⟨gk - 1, by omega⟩
      have hjm : j < m := by omega
      clear hg0
      by_cases hpl : p < V.length
      · have hrow := HROW.out.below' HBW.out
        obtain ⟨_, r1, _⟩ := hrow p hpl
        have HRW := Lib.hid hrow
        have hxz : (⟨V[p].name.toArray⟩ : ByteArray).size = V[p].name.length := by show V[p].name.toArray.size = _; simp
        have hxl : (⟨V[p].name.toArray⟩ : ByteArray).data.toList = V[p].name := by simp
        have hxs : (⟨V[p].name.toArray⟩ : ByteArray).size ≤ 100000 := by rw [hxz]; exact HSM.out _ (List.getElem_mem _)
        have HBAD := Lib.hid (fun h => HK.out.bad HPU.out hpl h)
        have HFAIL := Lib.hid (fun h h' => HK.out.fail HPU.out hpl h h')
        have HNEXT := Lib.hid (fun n h h' => HK.out.next (n := n) HPU.out hpl h h')
        rw [← hxl] at HBAD HFAIL HNEXT
        have hu : u ≤ 100000 := by have := HPU.out; omega
        clear hxz hxl hrow
        generalize (⟨V[p].name.toArray⟩ : ByteArray) = x at *
        have HS0 : Hid (wr.drew.cell? ⟨b, off + p * 5 + 1, none⟩ = some (.string x) ∧ wr.drew.cell? ⟨cb, 0, none⟩ = some (.int .u8 (kk : Int)) ∧ Below wr.heap.size wr wr.drew) := Lib.hid ⟨r1, e0, ⟨rfl, rfl, rfl, Nat.le_refl _, fun _ _ => rfl⟩⟩
        have hge : decide (V.length ≤ p) = false := decide_eq_false (by omega)
        have HT := Lib.hid (fun W' => HTX.out W' x hxs)
        have HA : Hid (∀ W', Below wr.heap.size wr W' → Calls Tryz.prog 114 #[ov, .string x] W' fun e w' => e = .returned (.bool (amongS nm x)) ∧ W' = w') := Lib.hid fun W' hW => ramong03_any nm ov x W' (by first | omega | simp) (HO2.out.sl.below hW)
        rcases empty_z x with ⟨z0, z1, z2, z3⟩ | ⟨z0, z1, z2, z3⟩
        rotate_left
        · have HO3 := Lib.hid (HBAD.out (by unfold okN; rw [if_neg Bool.false_ne_true, z3]; rfl))
          go_wp2_with fail
          refine wp_region_held_drew (S := fun W => W.cell? ⟨b, off + p * 5 + 1, none⟩ = some (.string x) ∧ W.cell? ⟨cb, 0, none⟩ = some (.int .u8 (kk : Int)) ∧ Below wr.heap.size wr W) (by kernel_rfl) (HS0.out) (fun hHeld => ?_)
          refine tky 0 (some 49) (v := ?_) rfl (by kernel_rfl) (by kernel_rfl) (by kernel_rfl) (fun _ _ _ h => h) ?_ hHeld ?_
          rotate_left
          focus (intro w hSw; (try dsimp only at hSw); go_simp; (try with_reducible rfl); done)
          go_frame
          refine tky 1 (some 50) (v := ?_) rfl (by kernel_rfl) (by kernel_rfl) (by kernel_rfl) (fun _ _ _ h => h) ?_ hHeld ?_
          rotate_left
          focus (intro w hSw; (try dsimp only at hSw); go_simp; (try with_reducible rfl); done)
          go_frame
          refine tky 2 (some 51) (v := ?_) rfl (by kernel_rfl) (by kernel_rfl) (by kernel_rfl) (fun _ _ _ h => h) ?_ hHeld ?_
          rotate_left
          focus (intro w hSw; (try dsimp only at hSw); go_simp; (try with_reducible rfl); done)
          go_frame
          refine tky 3 (some 52) (v := ?_) rfl (by kernel_rfl) (by kernel_rfl) (by kernel_rfl) (fun _ _ _ h => h) ?_ hHeld ?_
          rotate_left
          focus (intro w hSw; (try dsimp only at hSw); go_simp; (try with_reducible rfl); done)
          go_frame
          refine tky 4 (some 53) (v := ?_) rfl (by kernel_rfl) (by kernel_rfl) (by kernel_rfl) (fun _ _ _ h => h) ?_ hHeld ?_
          rotate_left
          focus (intro w hSw; (try dsimp only at hSw); go_simp; (try with_reducible rfl); done)
          go_frame
          refine tky 5 (some 54) (v := ?_) rfl (by kernel_rfl) (by kernel_rfl) (by kernel_rfl) (fun _ _ _ h => h) ?_ hHeld ?_
          rotate_left
          focus (intro w hSw; (try dsimp only at hSw); go_simp; (try with_reducible rfl); done)
          go_frame
          refine tky 6 (some 55) (v := ?_) rfl (by kernel_rfl) (by kernel_rfl) (by kernel_rfl) (fun _ _ _ h => h) ?_ hHeld ?_
          rotate_left
          focus (intro w hSw; (try dsimp only at hSw); go_simp; (try with_reducible rfl); done)
          go_frame
          refine tky 7 (some 56) (v := ?_) rfl (by kernel_rfl) (by kernel_rfl) (by kernel_rfl) (fun _ _ _ h => h) ?_ hHeld ?_
          rotate_left
          focus (intro w hSw; (try dsimp only at hSw); go_simp; (try with_reducible rfl); done)
          go_frame
          refine tky 8 (some 57) (v := ?_) rfl (by kernel_rfl) (by kernel_rfl) (by kernel_rfl) (fun _ _ _ h => h) ?_ hHeld ?_
          rotate_left
          focus (intro w hSw; (try dsimp only at hSw); go_simp; (try with_reducible rfl); done)
          go_frame
          refine tky 9 (some 58) (v := ?_) rfl (by kernel_rfl) (by kernel_rfl) (by kernel_rfl) (fun _ _ _ h => h) ?_ hHeld ?_
          rotate_left
          focus (intro w hSw; (try dsimp only at hSw); go_simp; (try with_reducible rfl); done)
          go_frame
          refine tky 10 (some 59) (v := ?_) rfl (by kernel_rfl) (by kernel_rfl) (by kernel_rfl) (fun _ _ _ h => h) ?_ hHeld ?_
          rotate_left
          focus (intro w hSw; (try dsimp only at hSw); go_simp; (try with_reducible rfl); done)
          go_frame
          refine tky 11 (some 60) (v := ?_) rfl (by kernel_rfl) (by kernel_rfl) (by kernel_rfl) (fun _ _ _ h => h) ?_ hHeld ?_
          rotate_left
          focus (intro w hSw; (try dsimp only at hSw); go_simp; (try with_reducible rfl); done)
          go_frame
          refine tky 12 (some 61) (v := ?_) rfl (by kernel_rfl) (by kernel_rfl) (by kernel_rfl) (fun _ _ _ h => h) ?_ hHeld ?_
          rotate_left
          focus (intro w hSw; (try dsimp only at hSw); go_simp; (try with_reducible rfl); done)
          go_frame
          refine tky 13 (some 62) (v := ?_) rfl (by kernel_rfl) (by kernel_rfl) (by kernel_rfl) (fun _ _ _ h => h) ?_ hHeld ?_
          rotate_left
          focus (intro w hSw; (try dsimp only at hSw); go_simp; (try with_reducible rfl); done)
          go_frame
          refine tky 14 (some 63) (v := ?_) rfl (by kernel_rfl) (by kernel_rfl) (by kernel_rfl) (fun _ _ _ h => h) ?_ hHeld ?_
          rotate_left
          focus (intro w hSw; (try dsimp only at hSw); go_simp; (try with_reducible rfl); done)
          go_frame
          refine tky 15 (some 64) (v := ?_) rfl (by kernel_rfl) (by kernel_rfl) (by kernel_rfl) (fun _ _ _ h => h) ?_ hHeld ?_
          rotate_left
          focus (intro w hSw; (try dsimp only at hSw); go_simp; (try with_reducible rfl); done)
          go_frame
          refine tky 16 (some 65) (v := ?_) rfl (by kernel_rfl) (by kernel_rfl) (by kernel_rfl) (fun _ _ _ h => h) ?_ hHeld ?_
          rotate_left
          focus (intro w hSw; (try dsimp only at hSw); go_simp; (try with_reducible rfl); done)
          go_frame
          refine tkn 17 (some 66) rfl (by kernel_rfl) (by kernel_rfl) (by kernel_rfl) (fun _ _ _ h => h) hHeld ?_
          go_frame
          refine tkn 18 (some 67) rfl (by kernel_rfl) (by kernel_rfl) (by kernel_rfl) (fun _ _ _ h => h) hHeld ?_
          go_frame
          refine tkn 19 (some 68) rfl (by kernel_rfl) (by kernel_rfl) (by kernel_rfl) (fun _ _ _ h => h) hHeld ?_
          go_frame
          refine tkn 20 (some 69) rfl (by kernel_rfl) (by kernel_rfl) (by kernel_rfl) (fun _ _ _ h => h) hHeld ?_
          go_frame
          refine tkn 21 (some 70) rfl (by kernel_rfl) (by kernel_rfl) (by kernel_rfl) (fun _ _ _ h => h) hHeld ?_
          go_frame
          refine tkn 22 (some 71) rfl (by kernel_rfl) (by kernel_rfl) (by kernel_rfl) (fun _ _ _ h => h) hHeld ?_
          go_frame
          refine tkn 23 (some 72) rfl (by kernel_rfl) (by kernel_rfl) (by kernel_rfl) (fun _ _ _ h => h) hHeld ?_
          go_frame
          refine tky 24 (some 73) (v := ?_) rfl (by kernel_rfl) (by kernel_rfl) (by kernel_rfl) (fun _ _ _ h => h) ?_ hHeld ?_
          rotate_left
          focus (intro w hSw; (try dsimp only at hSw); go_simp; (try with_reducible rfl); done)
          go_frame
          refine tky 25 (some 74) (v := ?_) rfl (by kernel_rfl) (by kernel_rfl) (by kernel_rfl) (fun _ _ _ h => h) ?_ hHeld ?_
          rotate_left
          focus (intro w hSw; (try dsimp only at hSw); go_simp; (try with_reducible rfl); done)
          go_frame
          refine tkn 26 (some 75) rfl (by kernel_rfl) (by kernel_rfl) (by kernel_rfl) (fun _ _ _ h => h) hHeld ?_
          go_frame
          refine tkn 27 (some 76) rfl (by kernel_rfl) (by kernel_rfl) (by kernel_rfl) (fun _ _ _ h => h) hHeld ?_
          go_frame
          refine tkn 28 (some 77) rfl (by kernel_rfl) (by kernel_rfl) (by kernel_rfl) (fun _ _ _ h => h) hHeld ?_
          go_frame
          refine tkn 29 (some 78) rfl (by kernel_rfl) (by kernel_rfl) (by kernel_rfl) (fun _ _ _ h => h) hHeld ?_
          go_frame
          refine tkn 30 (some 79) rfl (by kernel_rfl) (by kernel_rfl) (by kernel_rfl) (fun _ _ _ h => h) hHeld ?_
          go_frame
          refine tkn 31 (some 80) rfl (by kernel_rfl) (by kernel_rfl) (by kernel_rfl) (fun _ _ _ h => h) hHeld ?_
          go_frame
          refine tkn 32 (some 81) rfl (by kernel_rfl) (by kernel_rfl) (by kernel_rfl) (fun _ _ _ h => h) hHeld ?_
          go_frame
          refine tky 33 (some 82) (v := ?_) rfl (by kernel_rfl) (by kernel_rfl) (by kernel_rfl) (fun _ _ _ h => h) ?_ hHeld ?_
          rotate_left
          focus (intro w hSw; (try dsimp only at hSw); go_simp; (try with_reducible rfl); done)
          go_frame
          refine wpAnyH_done (by kernel_rfl) ?_ _
          have HBX := Lib.hid (HBW.out.trans (hHeld.2.2.mono HBW.out.size))
          clear hHeld
          have HF := Lib.hid (HRN.out HO3.out)
          go_wp2_with fail
          go_ret
          exact ⟨ret_i HF.out, HBX.out⟩
        · have hne : x.data.toList.isEmpty = false := by rw [← ByteArray.toList_eq]; exact z2
          cases htx : textB x.data.toList with
          | false =>
            have HO3 := Lib.hid (HBAD.out (by unfold okN; rw [if_neg Bool.false_ne_true, htx]; simp))
            rw [htx] at HT
            clear hne htx
            go_wp2_with fail
            refine wp_region_held_drew (S := fun W => W.cell? ⟨b, off + p * 5 + 1, none⟩ = some (.string x) ∧ W.cell? ⟨cb, 0, none⟩ = some (.int .u8 (kk : Int)) ∧ Below wr.heap.size wr W) (by kernel_rfl) (HS0.out) (fun hHeld => ?_)
            refine tky 0 (some 49) (v := ?_) rfl (by kernel_rfl) (by kernel_rfl) (by kernel_rfl) (fun _ _ _ h => h) ?_ hHeld ?_
            rotate_left
            focus (intro w hSw; (try dsimp only at hSw); go_simp; (try with_reducible rfl); done)
            go_frame
            refine tky 1 (some 50) (v := ?_) rfl (by kernel_rfl) (by kernel_rfl) (by kernel_rfl) (fun _ _ _ h => h) ?_ hHeld ?_
            rotate_left
            focus (intro w hSw; (try dsimp only at hSw); go_simp; (try with_reducible rfl); done)
            go_frame
            refine tky 2 (some 51) (v := ?_) rfl (by kernel_rfl) (by kernel_rfl) (by kernel_rfl) (fun _ _ _ h => h) ?_ hHeld ?_
            rotate_left
            focus (intro w hSw; (try dsimp only at hSw); go_simp; (try with_reducible rfl); done)
            go_frame
            refine tky 3 (some 52) (v := ?_) rfl (by kernel_rfl) (by kernel_rfl) (by kernel_rfl) (fun _ _ _ h => h) ?_ hHeld ?_
            rotate_left
            focus (intro w hSw; (try dsimp only at hSw); go_simp; (try with_reducible rfl); done)
            go_frame
            refine tky 4 (some 53) (v := ?_) rfl (by kernel_rfl) (by kernel_rfl) (by kernel_rfl) (fun _ _ _ h => h) ?_ hHeld ?_
            rotate_left
            focus (intro w hSw; (try dsimp only at hSw); go_simp; (try with_reducible rfl); done)
            go_frame
            refine tky 5 (some 54) (v := ?_) rfl (by kernel_rfl) (by kernel_rfl) (by kernel_rfl) (fun _ _ _ h => h) ?_ hHeld ?_
            rotate_left
            focus (intro w hSw; (try dsimp only at hSw); go_simp; (try with_reducible rfl); done)
            go_frame
            refine tky 6 (some 55) (v := ?_) rfl (by kernel_rfl) (by kernel_rfl) (by kernel_rfl) (fun _ _ _ h => h) ?_ hHeld ?_
            rotate_left
            focus (intro w hSw; (try dsimp only at hSw); go_simp; (try with_reducible rfl); done)
            go_frame
            refine tky 7 (some 56) (v := ?_) rfl (by kernel_rfl) (by kernel_rfl) (by kernel_rfl) (fun _ _ _ h => h) ?_ hHeld ?_
            rotate_left
            focus (intro w hSw; (try dsimp only at hSw); go_simp; (try with_reducible rfl); done)
            go_frame
            refine tky 8 (some 57) (v := ?_) rfl (by kernel_rfl) (by kernel_rfl) (by kernel_rfl) (fun _ _ _ h => h) ?_ hHeld ?_
            rotate_left
            focus (intro w hSw; (try dsimp only at hSw); go_simp; (try with_reducible rfl); done)
            go_frame
            refine tky 9 (some 58) (v := ?_) rfl (by kernel_rfl) (by kernel_rfl) (by kernel_rfl) (fun _ _ _ h => h) ?_ hHeld ?_
            rotate_left
            focus (intro w hSw; (try dsimp only at hSw); go_simp; (try with_reducible rfl); done)
            go_frame
            refine tky 10 (some 59) (v := ?_) rfl (by kernel_rfl) (by kernel_rfl) (by kernel_rfl) (fun _ _ _ h => h) ?_ hHeld ?_
            rotate_left
            focus (intro w hSw; (try dsimp only at hSw); go_simp; (try with_reducible rfl); done)
            go_frame
            refine tky 11 (some 60) (v := ?_) rfl (by kernel_rfl) (by kernel_rfl) (by kernel_rfl) (fun _ _ _ h => h) ?_ hHeld ?_
            rotate_left
            focus (intro w hSw; (try dsimp only at hSw); go_simp; (try with_reducible rfl); done)
            go_frame
            refine tky 12 (some 61) (v := ?_) rfl (by kernel_rfl) (by kernel_rfl) (by kernel_rfl) (fun _ _ _ h => h) ?_ hHeld ?_
            rotate_left
            focus (intro w hSw; (try dsimp only at hSw); go_simp; (try with_reducible rfl); done)
            go_frame
            refine tky 13 (some 62) (v := ?_) rfl (by kernel_rfl) (by kernel_rfl) (by kernel_rfl) (fun _ _ _ h => h) ?_ hHeld ?_
            rotate_left
            focus (intro w hSw; (try dsimp only at hSw); go_simp; (try with_reducible rfl); done)
            go_frame
            refine tky 14 (some 63) (v := ?_) rfl (by kernel_rfl) (by kernel_rfl) (by kernel_rfl) (fun _ _ _ h => h) ?_ hHeld ?_
            rotate_left
            focus (intro w hSw; (try dsimp only at hSw); go_simp; (try with_reducible rfl); done)
            go_frame
            refine tky 15 (some 64) (v := ?_) rfl (by kernel_rfl) (by kernel_rfl) (by kernel_rfl) (fun _ _ _ h => h) ?_ hHeld ?_
            rotate_left
            focus (intro w hSw; (try dsimp only at hSw); go_simp; (try with_reducible rfl); done)
            go_frame
            refine tky 16 (some 65) (v := ?_) rfl (by kernel_rfl) (by kernel_rfl) (by kernel_rfl) (fun _ _ _ h => h) ?_ hHeld ?_
            rotate_left
            focus (intro w hSw; (try dsimp only at hSw); go_simp; (try with_reducible rfl); done)
            go_frame
            refine tky 17 (some 66) (v := ?_) rfl (by kernel_rfl) (by kernel_rfl) (by kernel_rfl) (fun _ _ _ h => h) ?_ hHeld ?_
            rotate_left
            focus (intro w hSw; (try dsimp only at hSw); go_simp; (try with_reducible rfl); done)
            go_frame
            refine tky 18 (some 67) (v := ?_) rfl (by kernel_rfl) (by kernel_rfl) (by kernel_rfl) (fun _ _ _ h => h) ?_ hHeld ?_
            rotate_left
            focus (intro w hSw; (try dsimp only at hSw); go_simp; (try with_reducible rfl); done)
            go_frame
            refine tky 19 (some 68) (v := ?_) rfl (by kernel_rfl) (by kernel_rfl) (by kernel_rfl) (fun _ _ _ h => h) ?_ hHeld ?_
            rotate_left
            focus (intro w hSw; (try dsimp only at hSw); go_simp; (try with_reducible rfl); done)
            go_frame
            refine tky 20 (some 69) (v := ?_) rfl (by kernel_rfl) (by kernel_rfl) (by kernel_rfl) (fun _ _ _ h => h) ?_ hHeld ?_
            rotate_left
            focus (intro w hSw; (try dsimp only at hSw); go_simp; (try with_reducible rfl); done)
            go_frame
            refine tky 21 (some 70) (v := ?_) rfl (by kernel_rfl) (by kernel_rfl) (by kernel_rfl) (fun _ _ _ h => h) ?_ hHeld ?_
            rotate_left
            focus (intro w hSw; (try dsimp only at hSw); go_simp; (try with_reducible rfl); done)
            go_frame
            refine rcons 22 rfl (by kernel_rfl) (fun K hK => ?_)
            go_simp
            refine (HT.out _).mono ?_; rintro e wt ⟨rfl, hb⟩
            (try dsimp only)
            refine hK.out _ _ (keepR hb hHeld) (fun hHeld2 => ?_)
            clear hK K hHeld
            have hHeld := hHeld2
            clear hHeld2
            (try go_frame)
            refine tky 23 (some 72) (v := ?_) rfl (by kernel_rfl) (by kernel_rfl) (by kernel_rfl) (fun _ _ _ h => h) ?_ hHeld ?_
            rotate_left
            focus (intro w hSw; (try dsimp only at hSw); go_simp; (try with_reducible rfl); done)
            go_frame
            refine tky 24 (some 73) (v := ?_) rfl (by kernel_rfl) (by kernel_rfl) (by kernel_rfl) (fun _ _ _ h => h) ?_ hHeld ?_
            rotate_left
            focus (intro w hSw; (try dsimp only at hSw); go_simp; (try with_reducible rfl); done)
            go_frame
            refine tky 25 (some 74) (v := ?_) rfl (by kernel_rfl) (by kernel_rfl) (by kernel_rfl) (fun _ _ _ h => h) ?_ hHeld ?_
            rotate_left
            focus (intro w hSw; (try dsimp only at hSw); go_simp; (try with_reducible rfl); done)
            go_frame
            refine tkn 26 (some 75) rfl (by kernel_rfl) (by kernel_rfl) (by kernel_rfl) (fun _ _ _ h => h) hHeld ?_
            go_frame
            refine tkn 27 (some 76) rfl (by kernel_rfl) (by kernel_rfl) (by kernel_rfl) (fun _ _ _ h => h) hHeld ?_
            go_frame
            refine tkn 28 (some 77) rfl (by kernel_rfl) (by kernel_rfl) (by kernel_rfl) (fun _ _ _ h => h) hHeld ?_
            go_frame
            refine tkn 29 (some 78) rfl (by kernel_rfl) (by kernel_rfl) (by kernel_rfl) (fun _ _ _ h => h) hHeld ?_
            go_frame
            refine tkn 30 (some 79) rfl (by kernel_rfl) (by kernel_rfl) (by kernel_rfl) (fun _ _ _ h => h) hHeld ?_
            go_frame
            refine tkn 31 (some 80) rfl (by kernel_rfl) (by kernel_rfl) (by kernel_rfl) (fun _ _ _ h => h) hHeld ?_
            go_frame
            refine tkn 32 (some 81) rfl (by kernel_rfl) (by kernel_rfl) (by kernel_rfl) (fun _ _ _ h => h) hHeld ?_
            go_frame
            refine tky 33 (some 82) (v := ?_) rfl (by kernel_rfl) (by kernel_rfl) (by kernel_rfl) (fun _ _ _ h => h) ?_ hHeld ?_
            rotate_left
            focus (intro w hSw; (try dsimp only at hSw); go_simp; (try with_reducible rfl); done)
            go_frame
            refine wpAnyH_done (by kernel_rfl) ?_ _
            have HBX := Lib.hid (HBW.out.trans (hHeld.2.2.mono HBW.out.size))
            clear hHeld
            have HF := Lib.hid (HRN.out HO3.out)
            go_wp2_with fail
            go_ret
            exact ⟨ret_i HF.out, HBX.out⟩
          | true =>
            rw [htx] at HT
            cases ham : amongS nm x with
            | true =>
              have HO3 := Lib.hid (HBAD.out (by
                unfold okN
                have : amongB nl x.data.toList = true := by rw [HNL.out, revB, ← amongS_B, ham]
                rw [if_neg Bool.false_ne_true, this]; simp))
              rw [ham] at HA
              clear hne htx ham
              go_wp2_with fail
              refine wp_region_held_drew (S := fun W => W.cell? ⟨b, off + p * 5 + 1, none⟩ = some (.string x) ∧ W.cell? ⟨cb, 0, none⟩ = some (.int .u8 (kk : Int)) ∧ Below wr.heap.size wr W) (by kernel_rfl) (HS0.out) (fun hHeld => ?_)
              refine tky 0 (some 49) (v := ?_) rfl (by kernel_rfl) (by kernel_rfl) (by kernel_rfl) (fun _ _ _ h => h) ?_ hHeld ?_
              rotate_left
              focus (intro w hSw; (try dsimp only at hSw); go_simp; (try with_reducible rfl); done)
              go_frame
              refine tky 1 (some 50) (v := ?_) rfl (by kernel_rfl) (by kernel_rfl) (by kernel_rfl) (fun _ _ _ h => h) ?_ hHeld ?_
              rotate_left
              focus (intro w hSw; (try dsimp only at hSw); go_simp; (try with_reducible rfl); done)
              go_frame
              refine tky 2 (some 51) (v := ?_) rfl (by kernel_rfl) (by kernel_rfl) (by kernel_rfl) (fun _ _ _ h => h) ?_ hHeld ?_
              rotate_left
              focus (intro w hSw; (try dsimp only at hSw); go_simp; (try with_reducible rfl); done)
              go_frame
              refine tky 3 (some 52) (v := ?_) rfl (by kernel_rfl) (by kernel_rfl) (by kernel_rfl) (fun _ _ _ h => h) ?_ hHeld ?_
              rotate_left
              focus (intro w hSw; (try dsimp only at hSw); go_simp; (try with_reducible rfl); done)
              go_frame
              refine tky 4 (some 53) (v := ?_) rfl (by kernel_rfl) (by kernel_rfl) (by kernel_rfl) (fun _ _ _ h => h) ?_ hHeld ?_
              rotate_left
              focus (intro w hSw; (try dsimp only at hSw); go_simp; (try with_reducible rfl); done)
              go_frame
              refine tky 5 (some 54) (v := ?_) rfl (by kernel_rfl) (by kernel_rfl) (by kernel_rfl) (fun _ _ _ h => h) ?_ hHeld ?_
              rotate_left
              focus (intro w hSw; (try dsimp only at hSw); go_simp; (try with_reducible rfl); done)
              go_frame
              refine tky 6 (some 55) (v := ?_) rfl (by kernel_rfl) (by kernel_rfl) (by kernel_rfl) (fun _ _ _ h => h) ?_ hHeld ?_
              rotate_left
              focus (intro w hSw; (try dsimp only at hSw); go_simp; (try with_reducible rfl); done)
              go_frame
              refine tky 7 (some 56) (v := ?_) rfl (by kernel_rfl) (by kernel_rfl) (by kernel_rfl) (fun _ _ _ h => h) ?_ hHeld ?_
              rotate_left
              focus (intro w hSw; (try dsimp only at hSw); go_simp; (try with_reducible rfl); done)
              go_frame
              refine tky 8 (some 57) (v := ?_) rfl (by kernel_rfl) (by kernel_rfl) (by kernel_rfl) (fun _ _ _ h => h) ?_ hHeld ?_
              rotate_left
              focus (intro w hSw; (try dsimp only at hSw); go_simp; (try with_reducible rfl); done)
              go_frame
              refine tky 9 (some 58) (v := ?_) rfl (by kernel_rfl) (by kernel_rfl) (by kernel_rfl) (fun _ _ _ h => h) ?_ hHeld ?_
              rotate_left
              focus (intro w hSw; (try dsimp only at hSw); go_simp; (try with_reducible rfl); done)
              go_frame
              refine tky 10 (some 59) (v := ?_) rfl (by kernel_rfl) (by kernel_rfl) (by kernel_rfl) (fun _ _ _ h => h) ?_ hHeld ?_
              rotate_left
              focus (intro w hSw; (try dsimp only at hSw); go_simp; (try with_reducible rfl); done)
              go_frame
              refine tky 11 (some 60) (v := ?_) rfl (by kernel_rfl) (by kernel_rfl) (by kernel_rfl) (fun _ _ _ h => h) ?_ hHeld ?_
              rotate_left
              focus (intro w hSw; (try dsimp only at hSw); go_simp; (try with_reducible rfl); done)
              go_frame
              refine tky 12 (some 61) (v := ?_) rfl (by kernel_rfl) (by kernel_rfl) (by kernel_rfl) (fun _ _ _ h => h) ?_ hHeld ?_
              rotate_left
              focus (intro w hSw; (try dsimp only at hSw); go_simp; (try with_reducible rfl); done)
              go_frame
              refine tky 13 (some 62) (v := ?_) rfl (by kernel_rfl) (by kernel_rfl) (by kernel_rfl) (fun _ _ _ h => h) ?_ hHeld ?_
              rotate_left
              focus (intro w hSw; (try dsimp only at hSw); go_simp; (try with_reducible rfl); done)
              go_frame
              refine tky 14 (some 63) (v := ?_) rfl (by kernel_rfl) (by kernel_rfl) (by kernel_rfl) (fun _ _ _ h => h) ?_ hHeld ?_
              rotate_left
              focus (intro w hSw; (try dsimp only at hSw); go_simp; (try with_reducible rfl); done)
              go_frame
              refine tky 15 (some 64) (v := ?_) rfl (by kernel_rfl) (by kernel_rfl) (by kernel_rfl) (fun _ _ _ h => h) ?_ hHeld ?_
              rotate_left
              focus (intro w hSw; (try dsimp only at hSw); go_simp; (try with_reducible rfl); done)
              go_frame
              refine tky 16 (some 65) (v := ?_) rfl (by kernel_rfl) (by kernel_rfl) (by kernel_rfl) (fun _ _ _ h => h) ?_ hHeld ?_
              rotate_left
              focus (intro w hSw; (try dsimp only at hSw); go_simp; (try with_reducible rfl); done)
              go_frame
              refine tky 17 (some 66) (v := ?_) rfl (by kernel_rfl) (by kernel_rfl) (by kernel_rfl) (fun _ _ _ h => h) ?_ hHeld ?_
              rotate_left
              focus (intro w hSw; (try dsimp only at hSw); go_simp; (try with_reducible rfl); done)
              go_frame
              refine tky 18 (some 67) (v := ?_) rfl (by kernel_rfl) (by kernel_rfl) (by kernel_rfl) (fun _ _ _ h => h) ?_ hHeld ?_
              rotate_left
              focus (intro w hSw; (try dsimp only at hSw); go_simp; (try with_reducible rfl); done)
              go_frame
              refine tky 19 (some 68) (v := ?_) rfl (by kernel_rfl) (by kernel_rfl) (by kernel_rfl) (fun _ _ _ h => h) ?_ hHeld ?_
              rotate_left
              focus (intro w hSw; (try dsimp only at hSw); go_simp; (try with_reducible rfl); done)
              go_frame
              refine tky 20 (some 69) (v := ?_) rfl (by kernel_rfl) (by kernel_rfl) (by kernel_rfl) (fun _ _ _ h => h) ?_ hHeld ?_
              rotate_left
              focus (intro w hSw; (try dsimp only at hSw); go_simp; (try with_reducible rfl); done)
              go_frame
              refine tky 21 (some 70) (v := ?_) rfl (by kernel_rfl) (by kernel_rfl) (by kernel_rfl) (fun _ _ _ h => h) ?_ hHeld ?_
              rotate_left
              focus (intro w hSw; (try dsimp only at hSw); go_simp; (try with_reducible rfl); done)
              go_frame
              refine rcons 22 rfl (by kernel_rfl) (fun K hK => ?_)
              go_simp
              refine (HT.out _).mono ?_; rintro e wt ⟨rfl, hb⟩
              (try dsimp only)
              refine hK.out _ _ (keepR hb hHeld) (fun hHeld2 => ?_)
              clear hK K hHeld
              have hHeld := hHeld2
              clear hHeld2
              (try go_frame)
              refine tky 23 (some 72) (v := ?_) rfl (by kernel_rfl) (by kernel_rfl) (by kernel_rfl) (fun _ _ _ h => h) ?_ hHeld ?_
              rotate_left
              focus (intro w hSw; (try dsimp only at hSw); go_simp; (try with_reducible rfl); done)
              go_frame
              refine tky 24 (some 73) (v := ?_) rfl (by kernel_rfl) (by kernel_rfl) (by kernel_rfl) (fun _ _ _ h => h) ?_ hHeld ?_
              rotate_left
              focus (intro w hSw; (try dsimp only at hSw); go_simp; (try with_reducible rfl); done)
              go_frame
              refine tky 25 (some 74) (v := ?_) rfl (by kernel_rfl) (by kernel_rfl) (by kernel_rfl) (fun _ _ _ h => h) ?_ hHeld ?_
              rotate_left
              focus (intro w hSw; (try dsimp only at hSw); go_simp; (try with_reducible rfl); done)
              go_frame
              refine tky 26 (some 75) (v := ?_) rfl (by kernel_rfl) (by kernel_rfl) (by kernel_rfl) (fun _ _ _ h => h) ?_ hHeld ?_
              rotate_left
              focus (intro w hSw; (try dsimp only at hSw); go_simp; (try with_reducible rfl); done)
              go_frame
              refine tky 27 (some 76) (v := ?_) rfl (by kernel_rfl) (by kernel_rfl) (by kernel_rfl) (fun _ _ _ h => h) ?_ hHeld ?_
              rotate_left
              focus (intro w hSw; (try dsimp only at hSw); go_simp; (try with_reducible rfl); done)
              go_frame
              refine tky 28 (some 77) (v := ?_) rfl (by kernel_rfl) (by kernel_rfl) (by kernel_rfl) (fun _ _ _ h => h) ?_ hHeld ?_
              rotate_left
              focus (intro w hSw; (try dsimp only at hSw); go_simp; (try with_reducible rfl); done)
              go_frame
              refine tky 29 (some 78) (v := ?_) rfl (by kernel_rfl) (by kernel_rfl) (by kernel_rfl) (fun _ _ _ h => h) ?_ hHeld ?_
              rotate_left
              focus (intro w hSw; (try dsimp only at hSw); go_simp; (try with_reducible rfl); done)
              go_frame
              refine tky 30 (some 79) (v := ?_) rfl (by kernel_rfl) (by kernel_rfl) (by kernel_rfl) (fun _ _ _ h => h) ?_ hHeld ?_
              rotate_left
              focus (intro w hSw; (try dsimp only at hSw); go_simp; (try with_reducible rfl); done)
              go_frame
              refine tky 31 (some 80) (v := ?_) rfl (by kernel_rfl) (by kernel_rfl) (by kernel_rfl) (fun _ _ _ h => h) ?_ hHeld ?_
              rotate_left
              focus (intro w hSw; (try dsimp only at hSw); go_simp; (try with_reducible rfl); done)
              go_frame
              refine rcons 32 rfl (by kernel_rfl) (fun K hK => ?_)
              go_simp
              refine (HA.out _ hHeld.2.2).mono ?_; rintro e wa ⟨rfl, rfl⟩
              (try dsimp only)
              refine hK.out _ _ (hHeld) (fun hHeld2 => ?_)
              clear hK K hHeld
              have hHeld := hHeld2
              clear hHeld2
              (try go_frame)
              refine tky 33 (some 82) (v := ?_) rfl (by kernel_rfl) (by kernel_rfl) (by kernel_rfl) (fun _ _ _ h => h) ?_ hHeld ?_
              rotate_left
              focus (intro w hSw; (try dsimp only at hSw); go_simp; (try with_reducible rfl); done)
              go_frame
              refine wpAnyH_done (by kernel_rfl) ?_ _
              have HBX := Lib.hid (HBW.out.trans (hHeld.2.2.mono HBW.out.size))
              clear hHeld
              have HF := Lib.hid (HRN.out HO3.out)
              go_wp2_with fail
              go_ret
              exact ⟨ret_i HF.out, HBX.out⟩
            | false =>
              have HOK : Hid (okN false nl x.data.toList = true) := Lib.hid (by
                unfold okN
                have : amongB nl x.data.toList = false := by rw [HNL.out, revB, ← amongS_B, ham]
                rw [if_neg Bool.false_ne_true, this, hne, htx]; rfl)
              rw [ham] at HA
              clear hne htx ham
              go_wp2_with fail
              refine wp_region_held_drew (S := fun W => W.cell? ⟨b, off + p * 5 + 1, none⟩ = some (.string x) ∧ W.cell? ⟨cb, 0, none⟩ = some (.int .u8 (kk : Int)) ∧ Below wr.heap.size wr W) (by kernel_rfl) (HS0.out) (fun hHeld => ?_)
              refine tky 0 (some 49) (v := ?_) rfl (by kernel_rfl) (by kernel_rfl) (by kernel_rfl) (fun _ _ _ h => h) ?_ hHeld ?_
              rotate_left
              focus (intro w hSw; (try dsimp only at hSw); go_simp; (try with_reducible rfl); done)
              go_frame
              refine tky 1 (some 50) (v := ?_) rfl (by kernel_rfl) (by kernel_rfl) (by kernel_rfl) (fun _ _ _ h => h) ?_ hHeld ?_
              rotate_left
              focus (intro w hSw; (try dsimp only at hSw); go_simp; (try with_reducible rfl); done)
              go_frame
              refine tky 2 (some 51) (v := ?_) rfl (by kernel_rfl) (by kernel_rfl) (by kernel_rfl) (fun _ _ _ h => h) ?_ hHeld ?_
              rotate_left
              focus (intro w hSw; (try dsimp only at hSw); go_simp; (try with_reducible rfl); done)
              go_frame
              refine tky 3 (some 52) (v := ?_) rfl (by kernel_rfl) (by kernel_rfl) (by kernel_rfl) (fun _ _ _ h => h) ?_ hHeld ?_
              rotate_left
              focus (intro w hSw; (try dsimp only at hSw); go_simp; (try with_reducible rfl); done)
              go_frame
              refine tky 4 (some 53) (v := ?_) rfl (by kernel_rfl) (by kernel_rfl) (by kernel_rfl) (fun _ _ _ h => h) ?_ hHeld ?_
              rotate_left
              focus (intro w hSw; (try dsimp only at hSw); go_simp; (try with_reducible rfl); done)
              go_frame
              refine tky 5 (some 54) (v := ?_) rfl (by kernel_rfl) (by kernel_rfl) (by kernel_rfl) (fun _ _ _ h => h) ?_ hHeld ?_
              rotate_left
              focus (intro w hSw; (try dsimp only at hSw); go_simp; (try with_reducible rfl); done)
              go_frame
              refine tky 6 (some 55) (v := ?_) rfl (by kernel_rfl) (by kernel_rfl) (by kernel_rfl) (fun _ _ _ h => h) ?_ hHeld ?_
              rotate_left
              focus (intro w hSw; (try dsimp only at hSw); go_simp; (try with_reducible rfl); done)
              go_frame
              refine tky 7 (some 56) (v := ?_) rfl (by kernel_rfl) (by kernel_rfl) (by kernel_rfl) (fun _ _ _ h => h) ?_ hHeld ?_
              rotate_left
              focus (intro w hSw; (try dsimp only at hSw); go_simp; (try with_reducible rfl); done)
              go_frame
              refine tky 8 (some 57) (v := ?_) rfl (by kernel_rfl) (by kernel_rfl) (by kernel_rfl) (fun _ _ _ h => h) ?_ hHeld ?_
              rotate_left
              focus (intro w hSw; (try dsimp only at hSw); go_simp; (try with_reducible rfl); done)
              go_frame
              refine tky 9 (some 58) (v := ?_) rfl (by kernel_rfl) (by kernel_rfl) (by kernel_rfl) (fun _ _ _ h => h) ?_ hHeld ?_
              rotate_left
              focus (intro w hSw; (try dsimp only at hSw); go_simp; (try with_reducible rfl); done)
              go_frame
              refine tky 10 (some 59) (v := ?_) rfl (by kernel_rfl) (by kernel_rfl) (by kernel_rfl) (fun _ _ _ h => h) ?_ hHeld ?_
              rotate_left
              focus (intro w hSw; (try dsimp only at hSw); go_simp; (try with_reducible rfl); done)
              go_frame
              refine tky 11 (some 60) (v := ?_) rfl (by kernel_rfl) (by kernel_rfl) (by kernel_rfl) (fun _ _ _ h => h) ?_ hHeld ?_
              rotate_left
              focus (intro w hSw; (try dsimp only at hSw); go_simp; (try with_reducible rfl); done)
              go_frame
              refine tky 12 (some 61) (v := ?_) rfl (by kernel_rfl) (by kernel_rfl) (by kernel_rfl) (fun _ _ _ h => h) ?_ hHeld ?_
              rotate_left
              focus (intro w hSw; (try dsimp only at hSw); go_simp; (try with_reducible rfl); done)
              go_frame
              refine tky 13 (some 62) (v := ?_) rfl (by kernel_rfl) (by kernel_rfl) (by kernel_rfl) (fun _ _ _ h => h) ?_ hHeld ?_
              rotate_left
              focus (intro w hSw; (try dsimp only at hSw); go_simp; (try with_reducible rfl); done)
              go_frame
              refine tky 14 (some 63) (v := ?_) rfl (by kernel_rfl) (by kernel_rfl) (by kernel_rfl) (fun _ _ _ h => h) ?_ hHeld ?_
              rotate_left
              focus (intro w hSw; (try dsimp only at hSw); go_simp; (try with_reducible rfl); done)
              go_frame
              refine tky 15 (some 64) (v := ?_) rfl (by kernel_rfl) (by kernel_rfl) (by kernel_rfl) (fun _ _ _ h => h) ?_ hHeld ?_
              rotate_left
              focus (intro w hSw; (try dsimp only at hSw); go_simp; (try with_reducible rfl); done)
              go_frame
              refine tky 16 (some 65) (v := ?_) rfl (by kernel_rfl) (by kernel_rfl) (by kernel_rfl) (fun _ _ _ h => h) ?_ hHeld ?_
              rotate_left
              focus (intro w hSw; (try dsimp only at hSw); go_simp; (try with_reducible rfl); done)
              go_frame
              refine tky 17 (some 66) (v := ?_) rfl (by kernel_rfl) (by kernel_rfl) (by kernel_rfl) (fun _ _ _ h => h) ?_ hHeld ?_
              rotate_left
              focus (intro w hSw; (try dsimp only at hSw); go_simp; (try with_reducible rfl); done)
              go_frame
              refine tky 18 (some 67) (v := ?_) rfl (by kernel_rfl) (by kernel_rfl) (by kernel_rfl) (fun _ _ _ h => h) ?_ hHeld ?_
              rotate_left
              focus (intro w hSw; (try dsimp only at hSw); go_simp; (try with_reducible rfl); done)
              go_frame
              refine tky 19 (some 68) (v := ?_) rfl (by kernel_rfl) (by kernel_rfl) (by kernel_rfl) (fun _ _ _ h => h) ?_ hHeld ?_
              rotate_left
              focus (intro w hSw; (try dsimp only at hSw); go_simp; (try with_reducible rfl); done)
              go_frame
              refine tky 20 (some 69) (v := ?_) rfl (by kernel_rfl) (by kernel_rfl) (by kernel_rfl) (fun _ _ _ h => h) ?_ hHeld ?_
              rotate_left
              focus (intro w hSw; (try dsimp only at hSw); go_simp; (try with_reducible rfl); done)
              go_frame
              refine tky 21 (some 70) (v := ?_) rfl (by kernel_rfl) (by kernel_rfl) (by kernel_rfl) (fun _ _ _ h => h) ?_ hHeld ?_
              rotate_left
              focus (intro w hSw; (try dsimp only at hSw); go_simp; (try with_reducible rfl); done)
              go_frame
              refine rcons 22 rfl (by kernel_rfl) (fun K hK => ?_)
              go_simp
              refine (HT.out _).mono ?_; rintro e wt ⟨rfl, hb⟩
              (try dsimp only)
              refine hK.out _ _ (keepR hb hHeld) (fun hHeld2 => ?_)
              clear hK K hHeld
              have hHeld := hHeld2
              clear hHeld2
              (try go_frame)
              refine tky 23 (some 72) (v := ?_) rfl (by kernel_rfl) (by kernel_rfl) (by kernel_rfl) (fun _ _ _ h => h) ?_ hHeld ?_
              rotate_left
              focus (intro w hSw; (try dsimp only at hSw); go_simp; (try with_reducible rfl); done)
              go_frame
              refine tky 24 (some 73) (v := ?_) rfl (by kernel_rfl) (by kernel_rfl) (by kernel_rfl) (fun _ _ _ h => h) ?_ hHeld ?_
              rotate_left
              focus (intro w hSw; (try dsimp only at hSw); go_simp; (try with_reducible rfl); done)
              go_frame
              refine tky 25 (some 74) (v := ?_) rfl (by kernel_rfl) (by kernel_rfl) (by kernel_rfl) (fun _ _ _ h => h) ?_ hHeld ?_
              rotate_left
              focus (intro w hSw; (try dsimp only at hSw); go_simp; (try with_reducible rfl); done)
              go_frame
              refine tky 26 (some 75) (v := ?_) rfl (by kernel_rfl) (by kernel_rfl) (by kernel_rfl) (fun _ _ _ h => h) ?_ hHeld ?_
              rotate_left
              focus (intro w hSw; (try dsimp only at hSw); go_simp; (try with_reducible rfl); done)
              go_frame
              refine tky 27 (some 76) (v := ?_) rfl (by kernel_rfl) (by kernel_rfl) (by kernel_rfl) (fun _ _ _ h => h) ?_ hHeld ?_
              rotate_left
              focus (intro w hSw; (try dsimp only at hSw); go_simp; (try with_reducible rfl); done)
              go_frame
              refine tky 28 (some 77) (v := ?_) rfl (by kernel_rfl) (by kernel_rfl) (by kernel_rfl) (fun _ _ _ h => h) ?_ hHeld ?_
              rotate_left
              focus (intro w hSw; (try dsimp only at hSw); go_simp; (try with_reducible rfl); done)
              go_frame
              refine tky 29 (some 78) (v := ?_) rfl (by kernel_rfl) (by kernel_rfl) (by kernel_rfl) (fun _ _ _ h => h) ?_ hHeld ?_
              rotate_left
              focus (intro w hSw; (try dsimp only at hSw); go_simp; (try with_reducible rfl); done)
              go_frame
              refine tky 30 (some 79) (v := ?_) rfl (by kernel_rfl) (by kernel_rfl) (by kernel_rfl) (fun _ _ _ h => h) ?_ hHeld ?_
              rotate_left
              focus (intro w hSw; (try dsimp only at hSw); go_simp; (try with_reducible rfl); done)
              go_frame
              refine tky 31 (some 80) (v := ?_) rfl (by kernel_rfl) (by kernel_rfl) (by kernel_rfl) (fun _ _ _ h => h) ?_ hHeld ?_
              rotate_left
              focus (intro w hSw; (try dsimp only at hSw); go_simp; (try with_reducible rfl); done)
              go_frame
              refine rcons 32 rfl (by kernel_rfl) (fun K hK => ?_)
              go_simp
              refine (HA.out _ hHeld.2.2).mono ?_; rintro e wa ⟨rfl, rfl⟩
              (try dsimp only)
              refine hK.out _ _ (hHeld) (fun hHeld2 => ?_)
              clear hK K hHeld
              have hHeld := hHeld2
              clear hHeld2
              (try go_frame)
              refine tky 33 (some 82) (v := ?_) rfl (by kernel_rfl) (by kernel_rfl) (by kernel_rfl) (fun _ _ _ h => h) ?_ hHeld ?_
              rotate_left
              focus (intro w hSw; (try dsimp only at hSw); go_simp; (try with_reducible rfl); done)
              go_frame
              refine wpAnyH_done (by kernel_rfl) ?_ _
              rename World => wt
              have HBT := Lib.hid hHeld.2.2
              have s1 := hHeld.1
              have s0 := hHeld.2.1
              clear hHeld
              have HO4 := Lib.hid (HO2.out.below HBT.out)
              have hwt := HBT.out.size
              go_wp2_with (at_builtin; refine wpList_pushS rfl _ _ rfl wc.heap.size ov nm rfl (HO4.out.alloc _) ⟨wt.heap.size, 0, none⟩ 1 x rfl (new_cell0 wt _ _) ?c1 ?c2 ?_)
              case c1 => omega
              case c2 => simp; omega
              intro v' w3 hown' hgrow
              have HB3 : Hid (Below wc.heap.size wc w3) := Lib.hid (((HB.out.trans (HBT.out.mono hwz)).alloc (by omega) _).grown hgrow (by simp; omega) HO4.out.lt)
              have HO5 := Lib.hid hown'
              have HBW3 : Hid (Below W.heap.size W w3) := Lib.hid (HBC.out.trans (HB3.out.mono HBC.out.size))
              have HRW3 := Lib.hid (HROW.out.below' HBW3.out)
              clear hown' hgrow HO4 s0 s1 e0 e4 r1
              go_wp2_with fail
              cases hv : valN (d - 1) (V.drop p) with
              | none =>
                have HO3 := Lib.hid (HFAIL.out HOK.out hv)
                have HI : Hid (∀ W', CelRow b off V W' → Calls Tryz.prog 101 #[.slice (some ⟨b, off, none⟩) V.length cap, .int .i64 (p : Int), .int .i64 ((d : Int) - 1)] W' fun e w' => e = .returned (.int .i64 (-1)) ∧ Below W'.heap.size W' w') := Lib.hid fun W' h => by
                  have := HIH.out W' p hpl h
                  rw [endI_none hv] at this
                  exact this
                have HF := Lib.hid (HRN.out HO3.out)
                clear hv
                refine (HI.out _ (HRW3.out.below' (Below.refl _ _))).mono ?_; rintro e w6 ⟨rfl, hb6⟩
                have HB6 := Lib.hid (HBW3.out.trans (hb6.mono HBW3.out.size))
                clear hb6
                go_wp2_with fail
                go_ret
                exact ⟨ret_i HF.out, HB6.out⟩
              | some n =>
                have HO3 := Lib.hid (HNEXT.out n HOK.out hv)
                have HI : Hid (∀ W', CelRow b off V W' → Calls Tryz.prog 101 #[.slice (some ⟨b, off, none⟩) V.length cap, .int .i64 (p : Int), .int .i64 ((d : Int) - 1)] W' fun e w' => e = .returned (.int .i64 ((p + n : Nat) : Int)) ∧ Below W'.heap.size W' w') := Lib.hid fun W' h => by
                  have := HIH.out W' p hpl h
                  rw [endI_some hv] at this
                  exact this
                have hn1 := (valN_le _ _ _ hv).1
                have hn2 := (valN_le _ _ _ hv).2
                rw [List.length_drop] at hn2
                obtain ⟨p2, hp2⟩ : ∃ p2, p + n = p2 := ⟨_, rfl⟩
                have HP2 : Hid (p2 = k + 1 + (u + n)) := Lib.hid (by rw [← hp2, HPU.out]; omega)
                have hp3 : p2 ≤ V.length := by omega
                rw [hp2] at HI
                clear hv hp2 hn2
                refine (HI.out _ (HRW3.out.below' (Below.refl _ _))).mono ?_; rintro e w6 ⟨rfl, hb6⟩
                have HB6 := Lib.hid (HB3.out.trans (hb6.mono HB3.out.size))
                have HO6 := Lib.hid (HO5.out.below hb6)
                clear hb6
                go_wp2_with fail
                go_roundg g1
                case measure => omega
                case rel => exact ⟨j + 1, p2, u + n, _, nm ++ [x], x.data.toList :: nl, rfl, rfl, by go_num, by omega, hp3, HP2, by omega, by simp; omega, HO3, Lib.hid (by rw [HNL.out]; simp), HO6, HB6⟩
      · have HO3 := Lib.hid (HK.out.out_ (by have := HPU.out; omega))
        have hge : decide (V.length ≤ p) = true := decide_eq_true (by omega)
        have HS0 : Hid (Below wr.heap.size wr wr.drew) := Lib.hid ⟨rfl, rfl, rfl, Nat.le_refl _, fun _ _ => rfl⟩
        go_wp2_with fail
        refine wp_region_held_drew (S := fun W => Below wr.heap.size wr W) (by kernel_rfl) (HS0.out) (fun hHeld => ?_)
        refine tky 0 (some 49) (v := ?_) rfl (by kernel_rfl) (by kernel_rfl) (by kernel_rfl) (fun _ _ _ h => h) ?_ hHeld ?_
        rotate_left
        focus (intro w hSw; (try dsimp only at hSw); go_simp; (try with_reducible rfl); done)
        go_frame
        refine tky 1 (some 50) (v := ?_) rfl (by kernel_rfl) (by kernel_rfl) (by kernel_rfl) (fun _ _ _ h => h) ?_ hHeld ?_
        rotate_left
        focus (intro w hSw; (try dsimp only at hSw); go_simp; (try with_reducible rfl); done)
        go_frame
        refine tky 2 (some 51) (v := ?_) rfl (by kernel_rfl) (by kernel_rfl) (by kernel_rfl) (fun _ _ _ h => h) ?_ hHeld ?_
        rotate_left
        focus (intro w hSw; (try dsimp only at hSw); go_simp; (try with_reducible rfl); done)
        go_frame
        refine tky 3 (some 52) (v := ?_) rfl (by kernel_rfl) (by kernel_rfl) (by kernel_rfl) (fun _ _ _ h => h) ?_ hHeld ?_
        rotate_left
        focus (intro w hSw; (try dsimp only at hSw); go_simp; (try with_reducible rfl); done)
        go_frame
        refine tky 4 (some 53) (v := ?_) rfl (by kernel_rfl) (by kernel_rfl) (by kernel_rfl) (fun _ _ _ h => h) ?_ hHeld ?_
        rotate_left
        focus (intro w hSw; (try dsimp only at hSw); go_simp; (try with_reducible rfl); done)
        go_frame
        refine tkn 5 (some 54) rfl (by kernel_rfl) (by kernel_rfl) (by kernel_rfl) (fun _ _ _ h => h) hHeld ?_
        go_frame
        refine tkn 6 (some 55) rfl (by kernel_rfl) (by kernel_rfl) (by kernel_rfl) (fun _ _ _ h => h) hHeld ?_
        go_frame
        refine tkn 7 (some 56) rfl (by kernel_rfl) (by kernel_rfl) (by kernel_rfl) (fun _ _ _ h => h) hHeld ?_
        go_frame
        refine tkn 8 (some 57) rfl (by kernel_rfl) (by kernel_rfl) (by kernel_rfl) (fun _ _ _ h => h) hHeld ?_
        go_frame
        refine tkn 9 (some 58) rfl (by kernel_rfl) (by kernel_rfl) (by kernel_rfl) (fun _ _ _ h => h) hHeld ?_
        go_frame
        refine tkn 10 (some 59) rfl (by kernel_rfl) (by kernel_rfl) (by kernel_rfl) (fun _ _ _ h => h) hHeld ?_
        go_frame
        refine tkn 11 (some 60) rfl (by kernel_rfl) (by kernel_rfl) (by kernel_rfl) (fun _ _ _ h => h) hHeld ?_
        go_frame
        refine tkn 12 (some 61) rfl (by kernel_rfl) (by kernel_rfl) (by kernel_rfl) (fun _ _ _ h => h) hHeld ?_
        go_frame
        refine tkn 13 (some 62) rfl (by kernel_rfl) (by kernel_rfl) (by kernel_rfl) (fun _ _ _ h => h) hHeld ?_
        go_frame
        refine tkn 14 (some 63) rfl (by kernel_rfl) (by kernel_rfl) (by kernel_rfl) (fun _ _ _ h => h) hHeld ?_
        go_frame
        refine tky 15 (some 64) (v := ?_) rfl (by kernel_rfl) (by kernel_rfl) (by kernel_rfl) (fun _ _ _ h => h) ?_ hHeld ?_
        rotate_left
        focus (intro w hSw; (try dsimp only at hSw); go_simp; (try with_reducible rfl); done)
        go_frame
        refine tky 16 (some 65) (v := ?_) rfl (by kernel_rfl) (by kernel_rfl) (by kernel_rfl) (fun _ _ _ h => h) ?_ hHeld ?_
        rotate_left
        focus (intro w hSw; (try dsimp only at hSw); go_simp; (try with_reducible rfl); done)
        go_frame
        refine tkn 17 (some 66) rfl (by kernel_rfl) (by kernel_rfl) (by kernel_rfl) (fun _ _ _ h => h) hHeld ?_
        go_frame
        refine tkn 18 (some 67) rfl (by kernel_rfl) (by kernel_rfl) (by kernel_rfl) (fun _ _ _ h => h) hHeld ?_
        go_frame
        refine tkn 19 (some 68) rfl (by kernel_rfl) (by kernel_rfl) (by kernel_rfl) (fun _ _ _ h => h) hHeld ?_
        go_frame
        refine tkn 20 (some 69) rfl (by kernel_rfl) (by kernel_rfl) (by kernel_rfl) (fun _ _ _ h => h) hHeld ?_
        go_frame
        refine tkn 21 (some 70) rfl (by kernel_rfl) (by kernel_rfl) (by kernel_rfl) (fun _ _ _ h => h) hHeld ?_
        go_frame
        refine tkn 22 (some 71) rfl (by kernel_rfl) (by kernel_rfl) (by kernel_rfl) (fun _ _ _ h => h) hHeld ?_
        go_frame
        refine tkn 23 (some 72) rfl (by kernel_rfl) (by kernel_rfl) (by kernel_rfl) (fun _ _ _ h => h) hHeld ?_
        go_frame
        refine tky 24 (some 73) (v := ?_) rfl (by kernel_rfl) (by kernel_rfl) (by kernel_rfl) (fun _ _ _ h => h) ?_ hHeld ?_
        rotate_left
        focus (intro w hSw; (try dsimp only at hSw); go_simp; (try with_reducible rfl); done)
        go_frame
        refine tky 25 (some 74) (v := ?_) rfl (by kernel_rfl) (by kernel_rfl) (by kernel_rfl) (fun _ _ _ h => h) ?_ hHeld ?_
        rotate_left
        focus (intro w hSw; (try dsimp only at hSw); go_simp; (try with_reducible rfl); done)
        go_frame
        refine tkn 26 (some 75) rfl (by kernel_rfl) (by kernel_rfl) (by kernel_rfl) (fun _ _ _ h => h) hHeld ?_
        go_frame
        refine tkn 27 (some 76) rfl (by kernel_rfl) (by kernel_rfl) (by kernel_rfl) (fun _ _ _ h => h) hHeld ?_
        go_frame
        refine tkn 28 (some 77) rfl (by kernel_rfl) (by kernel_rfl) (by kernel_rfl) (fun _ _ _ h => h) hHeld ?_
        go_frame
        refine tkn 29 (some 78) rfl (by kernel_rfl) (by kernel_rfl) (by kernel_rfl) (fun _ _ _ h => h) hHeld ?_
        go_frame
        refine tkn 30 (some 79) rfl (by kernel_rfl) (by kernel_rfl) (by kernel_rfl) (fun _ _ _ h => h) hHeld ?_
        go_frame
        refine tkn 31 (some 80) rfl (by kernel_rfl) (by kernel_rfl) (by kernel_rfl) (fun _ _ _ h => h) hHeld ?_
        go_frame
        refine tkn 32 (some 81) rfl (by kernel_rfl) (by kernel_rfl) (by kernel_rfl) (fun _ _ _ h => h) hHeld ?_
        go_frame
        refine tky 33 (some 82) (v := ?_) rfl (by kernel_rfl) (by kernel_rfl) (by kernel_rfl) (fun _ _ _ h => h) ?_ hHeld ?_
        rotate_left
        focus (intro w hSw; (try dsimp only at hSw); go_simp; (try with_reducible rfl); done)
        go_frame
        refine wpAnyH_done (by kernel_rfl) ?_ _
        have HBX := Lib.hid (HBW.out.trans (hHeld.mono HBW.out.size))
        clear hHeld
        have HF := Lib.hid (HRN.out HO3.out)
        go_wp2_with fail
        go_ret
        exact ⟨ret_i HF.out, HBX.out⟩
end Go.Proofs.YtgacpmdebjndkaaGreatDoor
namespace Go.Proofs.YtgacpmdebjndkaaGreatDoor
open Go.RowKit
/-- What behind's inner function finds: the cells, the kinds, itself, the ends. -/
structure BH (w0 : World) (V : List Cel) (b off cap bv ba bw be g : Nat) (es : Array Value) (W : World) : Prop where
  hv : W.heap[bv]? = some (.cells #[.slice (some ⟨b, off, none⟩) V.length cap] 69 (0, 0))
  ha : W.heap[ba]? = some (.cells kindsA 103 (0, 0))
  hw : W.heap[bw]? = some (.cells #[.func (.func 82) #[] #[.pointer (some ⟨bv, 0, none⟩), .pointer (some ⟨ba, 0, none⟩), .pointer (some ⟨bw, 0, none⟩), .pointer (some ⟨be, 0, none⟩)]] 105 (0, 0))
  he : W.heap[be]? = some (.cells #[.slice (some ⟨g, 0, none⟩) V.length V.length] 97 (0, 0))
  hg : W.heap[g]? = some (.cells es 3 (0, 0))
  size : es.size = V.length
  bel : Below w0.heap.size w0 W
  lv : w0.heap.size ≤ bv
  la : w0.heap.size ≤ ba
  lw : w0.heap.size ≤ bw
  le : w0.heap.size ≤ be
  lg : w0.heap.size ≤ g
  nv : bv ≠ g
  na : ba ≠ g
  nw : bw ≠ g
  ne : be ≠ g
section
variable {w0 : World} {V : List Cel} {b off cap bv ba bw be g : Nat} {es : Array Value} {W W' : World}
theorem BH.below (h : BH w0 V b off cap bv ba bw be g es W) (hb : Below W.heap.size W W') : BH w0 V b off cap bv ba bw be g es W' :=
  { h with
    hv := (hb.block _ (heap_lt h.hv)).trans h.hv
    ha := (hb.block _ (heap_lt h.ha)).trans h.ha
    hw := (hb.block _ (heap_lt h.hw)).trans h.hw
    he := (hb.block _ (heap_lt h.he)).trans h.he
    hg := (hb.block _ (heap_lt h.hg)).trans h.hg
    bel := h.bel.trans (hb.mono h.bel.size) }
theorem BH.alloc (h : BH w0 V b off cap bv ba bw be g es W) (o : Obj) : BH w0 V b off cap bv ba bw be g es (W.alloc o) := h.below ((Below.refl _ _).alloc (Nat.le_refl _) _)
theorem BH.grown (h : BH w0 V b off cap bv ba bw be g es W) (hb : W.grownBy W' (some g)) {es' : Array Value} (hg : W'.heap[g]? = some (.cells es' 3 (0, 0))) (hs : es'.size = es.size) : BH w0 V b off cap bv ba bw be g es' W' :=
  { h with
    hv := (hb.block _ (heap_lt h.hv) (fun e => h.nv (Option.some.inj e))).trans h.hv
    ha := (hb.block _ (heap_lt h.ha) (fun e => h.na (Option.some.inj e))).trans h.ha
    hw := (hb.block _ (heap_lt h.hw) (fun e => h.nw (Option.some.inj e))).trans h.hw
    he := (hb.block _ (heap_lt h.he) (fun e => h.ne (Option.some.inj e))).trans h.he
    hg := hg
    size := hs.trans h.size
    bel := h.bel.grown hb h.bel.size (fun k hk => by have := Option.some.inj hk; have := h.lg; omega) }
end
theorem grown_below {W W' : World} (hb : Below W.heap.size W W') (row : Option Nat) : W.grownBy W' row := ⟨hb.os, hb.tape, hb.output, hb.size, fun k hk _ => hb.block k hk⟩
theorem grown_trans {W W' W'' : World} {row : Option Nat} (h : W.grownBy W' row) (h' : W'.grownBy W'' row) : W.grownBy W'' row :=
  ⟨h'.os.trans h.os, h'.tape.trans h.tape, h'.output.trans h.output, Nat.le_trans h.size h'.size, fun k hk hne => (h'.block k (Nat.lt_of_lt_of_le hk h.size) hne).trans (h.block k hk hne)⟩
/-- What a call of behind's inner function hands back: the place, and the ends that it wrote. -/
def BEnd (V : List Cel) (k d g : Nat) (es : Array Value) (r : Int) (e : Ending) (W W' : World) : Prop :=
  e = .returned (.int .i64 r) ∧ W.grownBy W' (some g) ∧ ∃ es' : Array Value, W'.heap[g]? = some (.cells es' 3 (0, 0)) ∧ es'.size = es.size ∧
    ∀ n, valN d (V.drop k) = some n → (∀ i, i < k ∨ k + n ≤ i → es'[i]? = es[i]?) ∧ ∀ i, k ≤ i → i < k + n → es'[i]? = some (.int .i64 (endI V i 16))
theorem bend_no {V : List Cel} {k d g : Nat} {es : Array Value} {W W' : World} (hn : valN d (V.drop k) = none) (hg : W.heap[g]? = some (.cells es 3 (0, 0))) (hb : Below W.heap.size W W') : BEnd V k d g es (endI V k d) (.returned (.int .i64 (-1))) W W' := by
  have : endI V k d = -1 := by unfold endI; rw [hn]
  rw [this]
  refine ⟨rfl, grown_below hb _, es, (hb.block _ (heap_lt hg)).trans hg, rfl, ?_⟩
  intro n h
  rw [hn] at h; cases h
set_option maxRecDepth 100000 in
set_option maxHeartbeats 1000000 in
theorem bw_big (w0 : World) (V : List Cel) (b off cap bv ba bw be g : Nat) (es : Array Value) (W : World) (k d : Nat) (hB : BH w0 V b off cap bv ba bw be g es W) (kk : Nat) (nx tx : ByteArray) (nu mn : Int)
    (hk : k < V.length) (hl : V.length ≤ 100000) (hd : d ≤ 16)
    (c0 : W.cell? ⟨b, off + k * 5, none⟩ = some (.int .u8 (kk : Int))) (c1 : W.cell? ⟨b, off + k * 5 + 1, none⟩ = some (.string nx)) (c2 : W.cell? ⟨b, off + k * 5 + 2, none⟩ = some (.string tx)) (c3 : W.cell? ⟨b, off + k * 5 + 3, none⟩ = some (.int .i64 nu)) (c4 : W.cell? ⟨b, off + k * 5 + 4, none⟩ = some (.int .i64 mn))
    (h7 : 7 < kk) (h8 : kk ≤ 255) :
    Calls Tryz.prog 82 #[.int .i64 (k : Int), .int .i64 (d : Int), .pointer (some ⟨bv, 0, none⟩), .pointer (some ⟨ba, 0, none⟩), .pointer (some ⟨bw, 0, none⟩), .pointer (some ⟨be, 0, none⟩)] W fun e w' => e = .returned (.int .i64 (-1)) ∧ Below W.heap.size W w' := by
  have v0 : W.cell? ⟨bv, 0, none⟩ = some (.slice (some ⟨b, off, none⟩) V.length cap) := by rw [Lib.cell_of_heap hB.hv]; rfl
  clear hB
  go_enter Tryz.func82, Tryz.ntmps82
  go_wp2_with fail
  go_ret
  exact ⟨rfl, (Below.refl _ _).alloc (Nat.le_refl _) _⟩
set_option maxRecDepth 100000 in
set_option maxHeartbeats 1000000 in
theorem bw_text (w0 : World) (V : List Cel) (b off cap bv ba bw be g : Nat) (es : Array Value) (W : World) (k d : Nat) (hB : BH w0 V b off cap bv ba bw be g es W) (kk : Nat) (nx tx : ByteArray) (nu mn : Int)
    (hk : k < V.length) (hl : V.length ≤ 100000) (hd : d ≤ 16)
    (c0 : W.cell? ⟨b, off + k * 5, none⟩ = some (.int .u8 (kk : Int))) (c1 : W.cell? ⟨b, off + k * 5 + 1, none⟩ = some (.string nx)) (c2 : W.cell? ⟨b, off + k * 5 + 2, none⟩ = some (.string tx)) (c3 : W.cell? ⟨b, off + k * 5 + 3, none⟩ = some (.int .i64 nu)) (c4 : W.cell? ⟨b, off + k * 5 + 4, none⟩ = some (.int .i64 mn))
    (hk7 : kk ≤ 7) (HT : Hid (∀ w : World, Below W.heap.size W w → Calls Tryz.prog (tfun kk) #[.string tx] w fun e w' => e = .returned (.bool false) ∧ Below w.heap.size w w')) :
    Calls Tryz.prog 82 #[.int .i64 (k : Int), .int .i64 (d : Int), .pointer (some ⟨bv, 0, none⟩), .pointer (some ⟨ba, 0, none⟩), .pointer (some ⟨bw, 0, none⟩), .pointer (some ⟨be, 0, none⟩)] W fun e w' => e = .returned (.int .i64 (-1)) ∧ Below W.heap.size W w' := by
  have v0 : W.cell? ⟨bv, 0, none⟩ = some (.slice (some ⟨b, off, none⟩) V.length cap) := by rw [Lib.cell_of_heap hB.hv]; rfl
  have lba := heap_lt hB.ha
  have lbv := heap_lt hB.hv
  obtain ⟨a0, a1, a2⟩ := kindsA_get kk hk7
  have k0 : W.cell? ⟨ba, kk * 3, none⟩ = some (.func (.func (tfun kk)) #[] #[]) := by rw [Lib.cell_of_heap hB.ha]; exact a0
  have k1 : W.cell? ⟨ba, kk * 3 + 1, none⟩ = some (.func (.func (nfun kk)) #[] #[]) := by rw [Lib.cell_of_heap hB.ha]; exact a1
  have k2 : W.cell? ⟨ba, kk * 3 + 2, none⟩ = some (.bool (cnest kk)) := by rw [Lib.cell_of_heap hB.ha]; exact a2
  have ht := tfun_ent kk
  have hn := nfun_ent kk
  clear a0 a1 a2
  generalize tfun kk = ft at *
  generalize nfun kk = fn at *
  generalize cnest kk = nest at *
  have HB := Lib.hid hB
  clear hB
  go_enter Tryz.func82, Tryz.ntmps82
  go_wp2_with fail
  refine (HT.out _ (((Below.refl _ _).alloc (Nat.le_refl _) _).alloc (by simp) _)).mono ?_; rintro e w1 ⟨rfl, hb⟩
  have hb1 : Below W.heap.size W w1 := (((Below.refl _ _).alloc (Nat.le_refl _) _).alloc (by simp) _).trans (hb.mono (by simp; omega))
  have hc : w1.heap[W.heap.size]? = some (.cells #[.int .u8 (kk : Int), .string nx, .string tx, .int .i64 nu, .int .i64 mn] 78 (0, 0)) := (hb.block _ (by simp; omega)).trans (heap_old (heap_new _ _ _ rfl))
  have hq : w1.heap[W.heap.size + 1]? = some (.cells #[.func (.func ft) #[] #[], .func (.func fn) #[] #[], .bool nest] 102 (0, 0)) := (hb.block _ (by simp)).trans (heap_new _ _ _ (by simp))
  clear hb
  have w1c0 : w1.cell? ⟨W.heap.size, 0, none⟩ = some (.int .u8 (kk : Int)) := by rw [Lib.cell_of_heap hc]; rfl
  have w1c1 : w1.cell? ⟨W.heap.size, 1, none⟩ = some (.string nx) := by rw [Lib.cell_of_heap hc]; rfl
  have w1c2 : w1.cell? ⟨W.heap.size, 2, none⟩ = some (.string tx) := by rw [Lib.cell_of_heap hc]; rfl
  have w1c3 : w1.cell? ⟨W.heap.size, 3, none⟩ = some (.int .i64 nu) := by rw [Lib.cell_of_heap hc]; rfl
  have w1c4 : w1.cell? ⟨W.heap.size, 4, none⟩ = some (.int .i64 mn) := by rw [Lib.cell_of_heap hc]; rfl
  have w1q0 : w1.cell? ⟨W.heap.size + 1, 0, none⟩ = some (.func (.func ft) #[] #[]) := by rw [Lib.cell_of_heap hq]; rfl
  have w1q1 : w1.cell? ⟨W.heap.size + 1, 1, none⟩ = some (.func (.func fn) #[] #[]) := by rw [Lib.cell_of_heap hq]; rfl
  have w1q2 : w1.cell? ⟨W.heap.size + 1, 2, none⟩ = some (.bool nest) := by rw [Lib.cell_of_heap hq]; rfl
  have HC := Lib.hid hc
  have HQ := Lib.hid hq
  have HB1 := Lib.hid hb1
  clear hc hq hb1
  go_wp2_with fail
  go_ret
  exact ⟨rfl, HB1.out⟩
set_option maxRecDepth 100000 in
set_option maxHeartbeats 1000000 in
theorem bw_num (w0 : World) (V : List Cel) (b off cap bv ba bw be g : Nat) (es : Array Value) (W : World) (k d : Nat) (hB : BH w0 V b off cap bv ba bw be g es W) (kk : Nat) (nx tx : ByteArray) (nu mn : Int)
    (hk : k < V.length) (hl : V.length ≤ 100000) (hd : d ≤ 16)
    (c0 : W.cell? ⟨b, off + k * 5, none⟩ = some (.int .u8 (kk : Int))) (c1 : W.cell? ⟨b, off + k * 5 + 1, none⟩ = some (.string nx)) (c2 : W.cell? ⟨b, off + k * 5 + 2, none⟩ = some (.string tx)) (c3 : W.cell? ⟨b, off + k * 5 + 3, none⟩ = some (.int .i64 nu)) (c4 : W.cell? ⟨b, off + k * 5 + 4, none⟩ = some (.int .i64 mn))
    (hk7 : kk ≤ 7) (HT : Hid (∀ w : World, Below W.heap.size W w → Calls Tryz.prog (tfun kk) #[.string tx] w fun e w' => e = .returned (.bool true) ∧ Below w.heap.size w w'))
    (HN : Hid (∀ w : World, Calls Tryz.prog (nfun kk) #[.int .i64 nu] w fun e w' => e = .returned (.bool false) ∧ Below w.heap.size w w')) :
    Calls Tryz.prog 82 #[.int .i64 (k : Int), .int .i64 (d : Int), .pointer (some ⟨bv, 0, none⟩), .pointer (some ⟨ba, 0, none⟩), .pointer (some ⟨bw, 0, none⟩), .pointer (some ⟨be, 0, none⟩)] W fun e w' => e = .returned (.int .i64 (-1)) ∧ Below W.heap.size W w' := by
  have v0 : W.cell? ⟨bv, 0, none⟩ = some (.slice (some ⟨b, off, none⟩) V.length cap) := by rw [Lib.cell_of_heap hB.hv]; rfl
  have lba := heap_lt hB.ha
  have lbv := heap_lt hB.hv
  obtain ⟨a0, a1, a2⟩ := kindsA_get kk hk7
  have k0 : W.cell? ⟨ba, kk * 3, none⟩ = some (.func (.func (tfun kk)) #[] #[]) := by rw [Lib.cell_of_heap hB.ha]; exact a0
  have k1 : W.cell? ⟨ba, kk * 3 + 1, none⟩ = some (.func (.func (nfun kk)) #[] #[]) := by rw [Lib.cell_of_heap hB.ha]; exact a1
  have k2 : W.cell? ⟨ba, kk * 3 + 2, none⟩ = some (.bool (cnest kk)) := by rw [Lib.cell_of_heap hB.ha]; exact a2
  have ht := tfun_ent kk
  have hn := nfun_ent kk
  clear a0 a1 a2
  generalize tfun kk = ft at *
  generalize nfun kk = fn at *
  generalize cnest kk = nest at *
  have HB := Lib.hid hB
  clear hB
  go_enter Tryz.func82, Tryz.ntmps82
  go_wp2_with fail
  refine (HT.out _ (((Below.refl _ _).alloc (Nat.le_refl _) _).alloc (by simp) _)).mono ?_; rintro e w1 ⟨rfl, hb⟩
  have hb1 : Below W.heap.size W w1 := (((Below.refl _ _).alloc (Nat.le_refl _) _).alloc (by simp) _).trans (hb.mono (by simp; omega))
  have hc : w1.heap[W.heap.size]? = some (.cells #[.int .u8 (kk : Int), .string nx, .string tx, .int .i64 nu, .int .i64 mn] 78 (0, 0)) := (hb.block _ (by simp; omega)).trans (heap_old (heap_new _ _ _ rfl))
  have hq : w1.heap[W.heap.size + 1]? = some (.cells #[.func (.func ft) #[] #[], .func (.func fn) #[] #[], .bool nest] 102 (0, 0)) := (hb.block _ (by simp)).trans (heap_new _ _ _ (by simp))
  clear hb
  have w1c0 : w1.cell? ⟨W.heap.size, 0, none⟩ = some (.int .u8 (kk : Int)) := by rw [Lib.cell_of_heap hc]; rfl
  have w1c1 : w1.cell? ⟨W.heap.size, 1, none⟩ = some (.string nx) := by rw [Lib.cell_of_heap hc]; rfl
  have w1c2 : w1.cell? ⟨W.heap.size, 2, none⟩ = some (.string tx) := by rw [Lib.cell_of_heap hc]; rfl
  have w1c3 : w1.cell? ⟨W.heap.size, 3, none⟩ = some (.int .i64 nu) := by rw [Lib.cell_of_heap hc]; rfl
  have w1c4 : w1.cell? ⟨W.heap.size, 4, none⟩ = some (.int .i64 mn) := by rw [Lib.cell_of_heap hc]; rfl
  have w1q0 : w1.cell? ⟨W.heap.size + 1, 0, none⟩ = some (.func (.func ft) #[] #[]) := by rw [Lib.cell_of_heap hq]; rfl
  have w1q1 : w1.cell? ⟨W.heap.size + 1, 1, none⟩ = some (.func (.func fn) #[] #[]) := by rw [Lib.cell_of_heap hq]; rfl
  have w1q2 : w1.cell? ⟨W.heap.size + 1, 2, none⟩ = some (.bool nest) := by rw [Lib.cell_of_heap hq]; rfl
  have HC := Lib.hid hc
  have HQ := Lib.hid hq
  have HB1 := Lib.hid hb1
  clear hc hq hb1
  go_wp2_with fail
  refine (HN.out _).mono ?_; rintro e w2 ⟨rfl, hb⟩
  clear w1c0 w1c1 w1c2 w1c3 w1c4 w1q0 w1q1 w1q2
  have hb2 : Below W.heap.size W w2 := HB1.out.trans (hb.mono HB1.out.size)
  have hc : w2.heap[W.heap.size]? = some (.cells #[.int .u8 (kk : Int), .string nx, .string tx, .int .i64 nu, .int .i64 mn] 78 (0, 0)) := (hb.block _ (heap_lt HC.out)).trans HC.out
  have hq : w2.heap[W.heap.size + 1]? = some (.cells #[.func (.func ft) #[] #[], .func (.func fn) #[] #[], .bool nest] 102 (0, 0)) := (hb.block _ (heap_lt HQ.out)).trans HQ.out
  clear hb
  have w2c0 : w2.cell? ⟨W.heap.size, 0, none⟩ = some (.int .u8 (kk : Int)) := by rw [Lib.cell_of_heap hc]; rfl
  have w2c1 : w2.cell? ⟨W.heap.size, 1, none⟩ = some (.string nx) := by rw [Lib.cell_of_heap hc]; rfl
  have w2c2 : w2.cell? ⟨W.heap.size, 2, none⟩ = some (.string tx) := by rw [Lib.cell_of_heap hc]; rfl
  have w2c3 : w2.cell? ⟨W.heap.size, 3, none⟩ = some (.int .i64 nu) := by rw [Lib.cell_of_heap hc]; rfl
  have w2c4 : w2.cell? ⟨W.heap.size, 4, none⟩ = some (.int .i64 mn) := by rw [Lib.cell_of_heap hc]; rfl
  have w2q0 : w2.cell? ⟨W.heap.size + 1, 0, none⟩ = some (.func (.func ft) #[] #[]) := by rw [Lib.cell_of_heap hq]; rfl
  have w2q1 : w2.cell? ⟨W.heap.size + 1, 1, none⟩ = some (.func (.func fn) #[] #[]) := by rw [Lib.cell_of_heap hq]; rfl
  have w2q2 : w2.cell? ⟨W.heap.size + 1, 2, none⟩ = some (.bool nest) := by rw [Lib.cell_of_heap hq]; rfl
  have HC2 := Lib.hid hc
  have HQ2 := Lib.hid hq
  have HB2 := Lib.hid hb2
  clear hc hq hb2 HC HQ HB1
  go_wp2_with fail
  go_ret
  exact ⟨rfl, HB2.out⟩
set_option maxRecDepth 100000 in
set_option maxHeartbeats 1000000 in
theorem bw_neg (w0 : World) (V : List Cel) (b off cap bv ba bw be g : Nat) (es : Array Value) (W : World) (k d : Nat) (hB : BH w0 V b off cap bv ba bw be g es W) (kk : Nat) (nx tx : ByteArray) (nu mn : Int)
    (hk : k < V.length) (hl : V.length ≤ 100000) (hd : d ≤ 16)
    (c0 : W.cell? ⟨b, off + k * 5, none⟩ = some (.int .u8 (kk : Int))) (c1 : W.cell? ⟨b, off + k * 5 + 1, none⟩ = some (.string nx)) (c2 : W.cell? ⟨b, off + k * 5 + 2, none⟩ = some (.string tx)) (c3 : W.cell? ⟨b, off + k * 5 + 3, none⟩ = some (.int .i64 nu)) (c4 : W.cell? ⟨b, off + k * 5 + 4, none⟩ = some (.int .i64 mn))
    (hk7 : kk ≤ 7) (HT : Hid (∀ w : World, Below W.heap.size W w → Calls Tryz.prog (tfun kk) #[.string tx] w fun e w' => e = .returned (.bool true) ∧ Below w.heap.size w w'))
    (HN : Hid (∀ w : World, Calls Tryz.prog (nfun kk) #[.int .i64 nu] w fun e w' => e = .returned (.bool true) ∧ Below w.heap.size w w'))
    (hm : mn < 0) :
    Calls Tryz.prog 82 #[.int .i64 (k : Int), .int .i64 (d : Int), .pointer (some ⟨bv, 0, none⟩), .pointer (some ⟨ba, 0, none⟩), .pointer (some ⟨bw, 0, none⟩), .pointer (some ⟨be, 0, none⟩)] W fun e w' => e = .returned (.int .i64 (-1)) ∧ Below W.heap.size W w' := by
  have v0 : W.cell? ⟨bv, 0, none⟩ = some (.slice (some ⟨b, off, none⟩) V.length cap) := by rw [Lib.cell_of_heap hB.hv]; rfl
  have lba := heap_lt hB.ha
  have lbv := heap_lt hB.hv
  obtain ⟨a0, a1, a2⟩ := kindsA_get kk hk7
  have k0 : W.cell? ⟨ba, kk * 3, none⟩ = some (.func (.func (tfun kk)) #[] #[]) := by rw [Lib.cell_of_heap hB.ha]; exact a0
  have k1 : W.cell? ⟨ba, kk * 3 + 1, none⟩ = some (.func (.func (nfun kk)) #[] #[]) := by rw [Lib.cell_of_heap hB.ha]; exact a1
  have k2 : W.cell? ⟨ba, kk * 3 + 2, none⟩ = some (.bool (cnest kk)) := by rw [Lib.cell_of_heap hB.ha]; exact a2
  have ht := tfun_ent kk
  have hn := nfun_ent kk
  clear a0 a1 a2
  generalize tfun kk = ft at *
  generalize nfun kk = fn at *
  generalize cnest kk = nest at *
  have HB := Lib.hid hB
  clear hB
  go_enter Tryz.func82, Tryz.ntmps82
  go_wp2_with fail
  refine (HT.out _ (((Below.refl _ _).alloc (Nat.le_refl _) _).alloc (by simp) _)).mono ?_; rintro e w1 ⟨rfl, hb⟩
  have hb1 : Below W.heap.size W w1 := (((Below.refl _ _).alloc (Nat.le_refl _) _).alloc (by simp) _).trans (hb.mono (by simp; omega))
  have hc : w1.heap[W.heap.size]? = some (.cells #[.int .u8 (kk : Int), .string nx, .string tx, .int .i64 nu, .int .i64 mn] 78 (0, 0)) := (hb.block _ (by simp; omega)).trans (heap_old (heap_new _ _ _ rfl))
  have hq : w1.heap[W.heap.size + 1]? = some (.cells #[.func (.func ft) #[] #[], .func (.func fn) #[] #[], .bool nest] 102 (0, 0)) := (hb.block _ (by simp)).trans (heap_new _ _ _ (by simp))
  clear hb
  have w1c0 : w1.cell? ⟨W.heap.size, 0, none⟩ = some (.int .u8 (kk : Int)) := by rw [Lib.cell_of_heap hc]; rfl
  have w1c1 : w1.cell? ⟨W.heap.size, 1, none⟩ = some (.string nx) := by rw [Lib.cell_of_heap hc]; rfl
  have w1c2 : w1.cell? ⟨W.heap.size, 2, none⟩ = some (.string tx) := by rw [Lib.cell_of_heap hc]; rfl
  have w1c3 : w1.cell? ⟨W.heap.size, 3, none⟩ = some (.int .i64 nu) := by rw [Lib.cell_of_heap hc]; rfl
  have w1c4 : w1.cell? ⟨W.heap.size, 4, none⟩ = some (.int .i64 mn) := by rw [Lib.cell_of_heap hc]; rfl
  have w1q0 : w1.cell? ⟨W.heap.size + 1, 0, none⟩ = some (.func (.func ft) #[] #[]) := by rw [Lib.cell_of_heap hq]; rfl
  have w1q1 : w1.cell? ⟨W.heap.size + 1, 1, none⟩ = some (.func (.func fn) #[] #[]) := by rw [Lib.cell_of_heap hq]; rfl
  have w1q2 : w1.cell? ⟨W.heap.size + 1, 2, none⟩ = some (.bool nest) := by rw [Lib.cell_of_heap hq]; rfl
  have HC := Lib.hid hc
  have HQ := Lib.hid hq
  have HB1 := Lib.hid hb1
  clear hc hq hb1
  go_wp2_with fail
  refine (HN.out _).mono ?_; rintro e w2 ⟨rfl, hb⟩
  clear w1c0 w1c1 w1c2 w1c3 w1c4 w1q0 w1q1 w1q2
  have hb2 : Below W.heap.size W w2 := HB1.out.trans (hb.mono HB1.out.size)
  have hc : w2.heap[W.heap.size]? = some (.cells #[.int .u8 (kk : Int), .string nx, .string tx, .int .i64 nu, .int .i64 mn] 78 (0, 0)) := (hb.block _ (heap_lt HC.out)).trans HC.out
  have hq : w2.heap[W.heap.size + 1]? = some (.cells #[.func (.func ft) #[] #[], .func (.func fn) #[] #[], .bool nest] 102 (0, 0)) := (hb.block _ (heap_lt HQ.out)).trans HQ.out
  clear hb
  have w2c0 : w2.cell? ⟨W.heap.size, 0, none⟩ = some (.int .u8 (kk : Int)) := by rw [Lib.cell_of_heap hc]; rfl
  have w2c1 : w2.cell? ⟨W.heap.size, 1, none⟩ = some (.string nx) := by rw [Lib.cell_of_heap hc]; rfl
  have w2c2 : w2.cell? ⟨W.heap.size, 2, none⟩ = some (.string tx) := by rw [Lib.cell_of_heap hc]; rfl
  have w2c3 : w2.cell? ⟨W.heap.size, 3, none⟩ = some (.int .i64 nu) := by rw [Lib.cell_of_heap hc]; rfl
  have w2c4 : w2.cell? ⟨W.heap.size, 4, none⟩ = some (.int .i64 mn) := by rw [Lib.cell_of_heap hc]; rfl
  have w2q0 : w2.cell? ⟨W.heap.size + 1, 0, none⟩ = some (.func (.func ft) #[] #[]) := by rw [Lib.cell_of_heap hq]; rfl
  have w2q1 : w2.cell? ⟨W.heap.size + 1, 1, none⟩ = some (.func (.func fn) #[] #[]) := by rw [Lib.cell_of_heap hq]; rfl
  have w2q2 : w2.cell? ⟨W.heap.size + 1, 2, none⟩ = some (.bool nest) := by rw [Lib.cell_of_heap hq]; rfl
  have HC2 := Lib.hid hc
  have HQ2 := Lib.hid hq
  have HB2 := Lib.hid hb2
  clear hc hq hb2 HC HQ HB1
  go_wp2_with fail
  go_ret
  exact ⟨rfl, HB2.out⟩
set_option maxRecDepth 100000 in
set_option maxHeartbeats 1000000 in
theorem bw_leaf (w0 : World) (V : List Cel) (b off cap bv ba bw be g : Nat) (es : Array Value) (W : World) (k d : Nat) (hB : BH w0 V b off cap bv ba bw be g es W) (kk : Nat) (nx tx : ByteArray) (nu mn : Int)
    (hk : k < V.length) (hl : V.length ≤ 100000) (hd : d ≤ 16)
    (c0 : W.cell? ⟨b, off + k * 5, none⟩ = some (.int .u8 (kk : Int))) (c1 : W.cell? ⟨b, off + k * 5 + 1, none⟩ = some (.string nx)) (c2 : W.cell? ⟨b, off + k * 5 + 2, none⟩ = some (.string tx)) (c3 : W.cell? ⟨b, off + k * 5 + 3, none⟩ = some (.int .i64 nu)) (c4 : W.cell? ⟨b, off + k * 5 + 4, none⟩ = some (.int .i64 mn))
    (hk7 : kk ≤ 7) (HT : Hid (∀ w : World, Below W.heap.size W w → Calls Tryz.prog (tfun kk) #[.string tx] w fun e w' => e = .returned (.bool true) ∧ Below w.heap.size w w'))
    (HN : Hid (∀ w : World, Calls Tryz.prog (nfun kk) #[.int .i64 nu] w fun e w' => e = .returned (.bool true) ∧ Below w.heap.size w w'))
    (hm0 : 0 ≤ mn) (hcn : cnest kk = false) (hm : 0 < mn) :
    Calls Tryz.prog 82 #[.int .i64 (k : Int), .int .i64 (d : Int), .pointer (some ⟨bv, 0, none⟩), .pointer (some ⟨ba, 0, none⟩), .pointer (some ⟨bw, 0, none⟩), .pointer (some ⟨be, 0, none⟩)] W fun e w' => e = .returned (.int .i64 (-1)) ∧ Below W.heap.size W w' := by
  have v0 : W.cell? ⟨bv, 0, none⟩ = some (.slice (some ⟨b, off, none⟩) V.length cap) := by rw [Lib.cell_of_heap hB.hv]; rfl
  have lba := heap_lt hB.ha
  have lbv := heap_lt hB.hv
  obtain ⟨a0, a1, a2⟩ := kindsA_get kk hk7
  have k0 : W.cell? ⟨ba, kk * 3, none⟩ = some (.func (.func (tfun kk)) #[] #[]) := by rw [Lib.cell_of_heap hB.ha]; exact a0
  have k1 : W.cell? ⟨ba, kk * 3 + 1, none⟩ = some (.func (.func (nfun kk)) #[] #[]) := by rw [Lib.cell_of_heap hB.ha]; exact a1
  have k2 : W.cell? ⟨ba, kk * 3 + 2, none⟩ = some (.bool (cnest kk)) := by rw [Lib.cell_of_heap hB.ha]; exact a2
  have ht := tfun_ent kk
  have hn := nfun_ent kk
  clear a0 a1 a2
  generalize tfun kk = ft at *
  generalize nfun kk = fn at *
  rw [hcn] at k2
  clear hcn
  have HB := Lib.hid hB
  clear hB
  go_enter Tryz.func82, Tryz.ntmps82
  go_wp2_with fail
  refine (HT.out _ (((Below.refl _ _).alloc (Nat.le_refl _) _).alloc (by simp) _)).mono ?_; rintro e w1 ⟨rfl, hb⟩
  have hb1 : Below W.heap.size W w1 := (((Below.refl _ _).alloc (Nat.le_refl _) _).alloc (by simp) _).trans (hb.mono (by simp; omega))
  have hc : w1.heap[W.heap.size]? = some (.cells #[.int .u8 (kk : Int), .string nx, .string tx, .int .i64 nu, .int .i64 mn] 78 (0, 0)) := (hb.block _ (by simp; omega)).trans (heap_old (heap_new _ _ _ rfl))
  have hq : w1.heap[W.heap.size + 1]? = some (.cells #[.func (.func ft) #[] #[], .func (.func fn) #[] #[], .bool false] 102 (0, 0)) := (hb.block _ (by simp)).trans (heap_new _ _ _ (by simp))
  clear hb
  have w1c0 : w1.cell? ⟨W.heap.size, 0, none⟩ = some (.int .u8 (kk : Int)) := by rw [Lib.cell_of_heap hc]; rfl
  have w1c1 : w1.cell? ⟨W.heap.size, 1, none⟩ = some (.string nx) := by rw [Lib.cell_of_heap hc]; rfl
  have w1c2 : w1.cell? ⟨W.heap.size, 2, none⟩ = some (.string tx) := by rw [Lib.cell_of_heap hc]; rfl
  have w1c3 : w1.cell? ⟨W.heap.size, 3, none⟩ = some (.int .i64 nu) := by rw [Lib.cell_of_heap hc]; rfl
  have w1c4 : w1.cell? ⟨W.heap.size, 4, none⟩ = some (.int .i64 mn) := by rw [Lib.cell_of_heap hc]; rfl
  have w1q0 : w1.cell? ⟨W.heap.size + 1, 0, none⟩ = some (.func (.func ft) #[] #[]) := by rw [Lib.cell_of_heap hq]; rfl
  have w1q1 : w1.cell? ⟨W.heap.size + 1, 1, none⟩ = some (.func (.func fn) #[] #[]) := by rw [Lib.cell_of_heap hq]; rfl
  have w1q2 : w1.cell? ⟨W.heap.size + 1, 2, none⟩ = some (.bool false) := by rw [Lib.cell_of_heap hq]; rfl
  have HC := Lib.hid hc
  have HQ := Lib.hid hq
  have HB1 := Lib.hid hb1
  clear hc hq hb1
  go_wp2_with fail
  refine (HN.out _).mono ?_; rintro e w2 ⟨rfl, hb⟩
  clear w1c0 w1c1 w1c2 w1c3 w1c4 w1q0 w1q1 w1q2
  have hb2 : Below W.heap.size W w2 := HB1.out.trans (hb.mono HB1.out.size)
  have hc : w2.heap[W.heap.size]? = some (.cells #[.int .u8 (kk : Int), .string nx, .string tx, .int .i64 nu, .int .i64 mn] 78 (0, 0)) := (hb.block _ (heap_lt HC.out)).trans HC.out
  have hq : w2.heap[W.heap.size + 1]? = some (.cells #[.func (.func ft) #[] #[], .func (.func fn) #[] #[], .bool false] 102 (0, 0)) := (hb.block _ (heap_lt HQ.out)).trans HQ.out
  clear hb
  have w2c0 : w2.cell? ⟨W.heap.size, 0, none⟩ = some (.int .u8 (kk : Int)) := by rw [Lib.cell_of_heap hc]; rfl
  have w2c1 : w2.cell? ⟨W.heap.size, 1, none⟩ = some (.string nx) := by rw [Lib.cell_of_heap hc]; rfl
  have w2c2 : w2.cell? ⟨W.heap.size, 2, none⟩ = some (.string tx) := by rw [Lib.cell_of_heap hc]; rfl
  have w2c3 : w2.cell? ⟨W.heap.size, 3, none⟩ = some (.int .i64 nu) := by rw [Lib.cell_of_heap hc]; rfl
  have w2c4 : w2.cell? ⟨W.heap.size, 4, none⟩ = some (.int .i64 mn) := by rw [Lib.cell_of_heap hc]; rfl
  have w2q0 : w2.cell? ⟨W.heap.size + 1, 0, none⟩ = some (.func (.func ft) #[] #[]) := by rw [Lib.cell_of_heap hq]; rfl
  have w2q1 : w2.cell? ⟨W.heap.size + 1, 1, none⟩ = some (.func (.func fn) #[] #[]) := by rw [Lib.cell_of_heap hq]; rfl
  have w2q2 : w2.cell? ⟨W.heap.size + 1, 2, none⟩ = some (.bool false) := by rw [Lib.cell_of_heap hq]; rfl
  have HC2 := Lib.hid hc
  have HQ2 := Lib.hid hq
  have HB2 := Lib.hid hb2
  clear hc hq hb2 HC HQ HB1
  go_wp2_with fail
  go_ret
  exact ⟨rfl, HB2.out⟩
set_option maxRecDepth 100000 in
set_option maxHeartbeats 1000000 in
theorem bw_deep (w0 : World) (V : List Cel) (b off cap bv ba bw be g : Nat) (es : Array Value) (W : World) (k d : Nat) (hB : BH w0 V b off cap bv ba bw be g es W) (kk : Nat) (nx tx : ByteArray) (nu mn : Int)
    (hk : k < V.length) (hl : V.length ≤ 100000) (hd : d ≤ 16)
    (c0 : W.cell? ⟨b, off + k * 5, none⟩ = some (.int .u8 (kk : Int))) (c1 : W.cell? ⟨b, off + k * 5 + 1, none⟩ = some (.string nx)) (c2 : W.cell? ⟨b, off + k * 5 + 2, none⟩ = some (.string tx)) (c3 : W.cell? ⟨b, off + k * 5 + 3, none⟩ = some (.int .i64 nu)) (c4 : W.cell? ⟨b, off + k * 5 + 4, none⟩ = some (.int .i64 mn))
    (hk7 : kk ≤ 7) (HT : Hid (∀ w : World, Below W.heap.size W w → Calls Tryz.prog (tfun kk) #[.string tx] w fun e w' => e = .returned (.bool true) ∧ Below w.heap.size w w'))
    (HN : Hid (∀ w : World, Calls Tryz.prog (nfun kk) #[.int .i64 nu] w fun e w' => e = .returned (.bool true) ∧ Below w.heap.size w w'))
    (hm0 : 0 ≤ mn) (hcn : cnest kk = true) (hd0 : d = 0) :
    Calls Tryz.prog 82 #[.int .i64 (k : Int), .int .i64 (d : Int), .pointer (some ⟨bv, 0, none⟩), .pointer (some ⟨ba, 0, none⟩), .pointer (some ⟨bw, 0, none⟩), .pointer (some ⟨be, 0, none⟩)] W fun e w' => e = .returned (.int .i64 (-1)) ∧ Below W.heap.size W w' := by
  have v0 : W.cell? ⟨bv, 0, none⟩ = some (.slice (some ⟨b, off, none⟩) V.length cap) := by rw [Lib.cell_of_heap hB.hv]; rfl
  have lba := heap_lt hB.ha
  have lbv := heap_lt hB.hv
  obtain ⟨a0, a1, a2⟩ := kindsA_get kk hk7
  have k0 : W.cell? ⟨ba, kk * 3, none⟩ = some (.func (.func (tfun kk)) #[] #[]) := by rw [Lib.cell_of_heap hB.ha]; exact a0
  have k1 : W.cell? ⟨ba, kk * 3 + 1, none⟩ = some (.func (.func (nfun kk)) #[] #[]) := by rw [Lib.cell_of_heap hB.ha]; exact a1
  have k2 : W.cell? ⟨ba, kk * 3 + 2, none⟩ = some (.bool (cnest kk)) := by rw [Lib.cell_of_heap hB.ha]; exact a2
  have ht := tfun_ent kk
  have hn := nfun_ent kk
  clear a0 a1 a2
  generalize tfun kk = ft at *
  generalize nfun kk = fn at *
  rw [hcn] at k2
  clear hcn
  have HB := Lib.hid hB
  clear hB
  go_enter Tryz.func82, Tryz.ntmps82
  go_wp2_with fail
  refine (HT.out _ (((Below.refl _ _).alloc (Nat.le_refl _) _).alloc (by simp) _)).mono ?_; rintro e w1 ⟨rfl, hb⟩
  have hb1 : Below W.heap.size W w1 := (((Below.refl _ _).alloc (Nat.le_refl _) _).alloc (by simp) _).trans (hb.mono (by simp; omega))
  have hc : w1.heap[W.heap.size]? = some (.cells #[.int .u8 (kk : Int), .string nx, .string tx, .int .i64 nu, .int .i64 mn] 78 (0, 0)) := (hb.block _ (by simp; omega)).trans (heap_old (heap_new _ _ _ rfl))
  have hq : w1.heap[W.heap.size + 1]? = some (.cells #[.func (.func ft) #[] #[], .func (.func fn) #[] #[], .bool true] 102 (0, 0)) := (hb.block _ (by simp)).trans (heap_new _ _ _ (by simp))
  clear hb
  have w1c0 : w1.cell? ⟨W.heap.size, 0, none⟩ = some (.int .u8 (kk : Int)) := by rw [Lib.cell_of_heap hc]; rfl
  have w1c1 : w1.cell? ⟨W.heap.size, 1, none⟩ = some (.string nx) := by rw [Lib.cell_of_heap hc]; rfl
  have w1c2 : w1.cell? ⟨W.heap.size, 2, none⟩ = some (.string tx) := by rw [Lib.cell_of_heap hc]; rfl
  have w1c3 : w1.cell? ⟨W.heap.size, 3, none⟩ = some (.int .i64 nu) := by rw [Lib.cell_of_heap hc]; rfl
  have w1c4 : w1.cell? ⟨W.heap.size, 4, none⟩ = some (.int .i64 mn) := by rw [Lib.cell_of_heap hc]; rfl
  have w1q0 : w1.cell? ⟨W.heap.size + 1, 0, none⟩ = some (.func (.func ft) #[] #[]) := by rw [Lib.cell_of_heap hq]; rfl
  have w1q1 : w1.cell? ⟨W.heap.size + 1, 1, none⟩ = some (.func (.func fn) #[] #[]) := by rw [Lib.cell_of_heap hq]; rfl
  have w1q2 : w1.cell? ⟨W.heap.size + 1, 2, none⟩ = some (.bool true) := by rw [Lib.cell_of_heap hq]; rfl
  have HC := Lib.hid hc
  have HQ := Lib.hid hq
  have HB1 := Lib.hid hb1
  clear hc hq hb1
  go_wp2_with fail
  refine (HN.out _).mono ?_; rintro e w2 ⟨rfl, hb⟩
  clear w1c0 w1c1 w1c2 w1c3 w1c4 w1q0 w1q1 w1q2
  have hb2 : Below W.heap.size W w2 := HB1.out.trans (hb.mono HB1.out.size)
  have hc : w2.heap[W.heap.size]? = some (.cells #[.int .u8 (kk : Int), .string nx, .string tx, .int .i64 nu, .int .i64 mn] 78 (0, 0)) := (hb.block _ (heap_lt HC.out)).trans HC.out
  have hq : w2.heap[W.heap.size + 1]? = some (.cells #[.func (.func ft) #[] #[], .func (.func fn) #[] #[], .bool true] 102 (0, 0)) := (hb.block _ (heap_lt HQ.out)).trans HQ.out
  clear hb
  have w2c0 : w2.cell? ⟨W.heap.size, 0, none⟩ = some (.int .u8 (kk : Int)) := by rw [Lib.cell_of_heap hc]; rfl
  have w2c1 : w2.cell? ⟨W.heap.size, 1, none⟩ = some (.string nx) := by rw [Lib.cell_of_heap hc]; rfl
  have w2c2 : w2.cell? ⟨W.heap.size, 2, none⟩ = some (.string tx) := by rw [Lib.cell_of_heap hc]; rfl
  have w2c3 : w2.cell? ⟨W.heap.size, 3, none⟩ = some (.int .i64 nu) := by rw [Lib.cell_of_heap hc]; rfl
  have w2c4 : w2.cell? ⟨W.heap.size, 4, none⟩ = some (.int .i64 mn) := by rw [Lib.cell_of_heap hc]; rfl
  have w2q0 : w2.cell? ⟨W.heap.size + 1, 0, none⟩ = some (.func (.func ft) #[] #[]) := by rw [Lib.cell_of_heap hq]; rfl
  have w2q1 : w2.cell? ⟨W.heap.size + 1, 1, none⟩ = some (.func (.func fn) #[] #[]) := by rw [Lib.cell_of_heap hq]; rfl
  have w2q2 : w2.cell? ⟨W.heap.size + 1, 2, none⟩ = some (.bool true) := by rw [Lib.cell_of_heap hq]; rfl
  have HC2 := Lib.hid hc
  have HQ2 := Lib.hid hq
  have HB2 := Lib.hid hb2
  clear hc hq hb2 HC HQ HB1
  go_wp2_with fail
  go_ret
  exact ⟨rfl, HB2.out⟩
end Go.Proofs.YtgacpmdebjndkaaGreatDoor
namespace Go.Proofs.YtgacpmdebjndkaaGreatDoor
open Go.RowKit
theorem heap_set {w : World} {b i : Nat} {cs : Array Value} {t : TypeId} (v : Value) (h : w.heap[b]? = some (.cells cs t (0, 0))) : (w.setCell ⟨b, i, none⟩ v).heap[b]? = some (.cells (cs.setIfInBounds i v) t (0, 0)) := by
  rw [setCell_eq_setRow w b i cs t (0, 0) v h]; exact setRow_heap w b cs _ t (0, 0) h
theorem grown_set {W w : World} {g i : Nat} (h : W.grownBy w (some g)) (v : Value) : W.grownBy (w.setCell ⟨g, i, none⟩ v) (some g) :=
  ⟨h.os, h.tape, h.output, by simpa using h.size, fun k hk hne => by
    rw [Below.heap_setCell _ _ _ _ (fun e => hne (by rw [e]))]
    exact h.block k hk hne⟩
theorem bend_yes {V : List Cel} {k d n g : Nat} {es ez : Array Value} {W wz : World} (hn : valN d (V.drop k) = some n) (hd : d ≤ 16) (hk : k < V.length) (hs : es.size = V.length) (hgz : wz.heap[g]? = some (.cells ez 3 (0, 0))) (hsz : ez.size = es.size) (hw : W.grownBy wz (some g))
    (h1 : ∀ i, i < k + 1 ∨ k + n ≤ i → ez[i]? = es[i]?) (h2 : ∀ i, k + 1 ≤ i → i < k + n → ez[i]? = some (.int .i64 (endI V i 16))) :
    BEnd V k d g es (endI V k d) (.returned (.int .i64 ((k + n : Nat) : Int))) W (wz.setCell ⟨g, k, none⟩ (.int .i64 ((k + n : Nat) : Int))) := by
  have he : endI V k d = ((k + n : Nat) : Int) := by unfold endI; rw [hn]
  have he16 : endI V k 16 = ((k + n : Nat) : Int) := by unfold endI; rw [valN_mono hd _ _ hn]
  rw [he]
  refine ⟨rfl, grown_set hw _, _, heap_set _ hgz, by simp [hsz], ?_⟩
  intro n' hn'
  obtain rfl : n = n' := by rw [hn] at hn'; exact Option.some.inj hn'
  have hpos := (valN_le _ _ _ hn).1
  refine ⟨?_, ?_⟩
  · intro i hi
    rw [Array.getElem?_setIfInBounds]
    rw [if_neg (by omega)]
    exact h1 i (by omega)
  · intro i hi1 hi2
    rw [Array.getElem?_setIfInBounds]
    by_cases hik : k = i
    · subst hik
      rw [if_pos rfl, if_pos (by omega), he16]
    · rw [if_neg hik]
      exact h2 i (by omega) hi2
set_option maxRecDepth 100000 in
set_option maxHeartbeats 1000000 in
theorem bw_zero_leaf (w0 : World) (V : List Cel) (b off cap bv ba bw be g : Nat) (es : Array Value) (W : World) (k d : Nat) (hB : BH w0 V b off cap bv ba bw be g es W) (kk : Nat) (nx tx : ByteArray) (nu : Int)
    (hk : k < V.length) (hl : V.length ≤ 100000) (hd : d ≤ 16)
    (c0 : W.cell? ⟨b, off + k * 5, none⟩ = some (.int .u8 (kk : Int))) (c1 : W.cell? ⟨b, off + k * 5 + 1, none⟩ = some (.string nx)) (c2 : W.cell? ⟨b, off + k * 5 + 2, none⟩ = some (.string tx)) (c3 : W.cell? ⟨b, off + k * 5 + 3, none⟩ = some (.int .i64 nu)) (c4 : W.cell? ⟨b, off + k * 5 + 4, none⟩ = some (.int .i64 0))
    (hk7 : kk ≤ 7) (HT : Hid (∀ w : World, Below W.heap.size W w → Calls Tryz.prog (tfun kk) #[.string tx] w fun e w' => e = .returned (.bool true) ∧ Below w.heap.size w w'))
    (HN : Hid (∀ w : World, Calls Tryz.prog (nfun kk) #[.int .i64 nu] w fun e w' => e = .returned (.bool true) ∧ Below w.heap.size w w'))
    (hcn : cnest kk = false) (hval : valN d (V.drop k) = some 1) :
    Calls Tryz.prog 82 #[.int .i64 (k : Int), .int .i64 (d : Int), .pointer (some ⟨bv, 0, none⟩), .pointer (some ⟨ba, 0, none⟩), .pointer (some ⟨bw, 0, none⟩), .pointer (some ⟨be, 0, none⟩)] W fun e w' => BEnd V k d g es (endI V k d) e W w' := by
  have v0 : W.cell? ⟨bv, 0, none⟩ = some (.slice (some ⟨b, off, none⟩) V.length cap) := by rw [Lib.cell_of_heap hB.hv]; rfl
  have HV := Lib.hid hval
  clear hval
  have lba := heap_lt hB.ha
  have lbv := heap_lt hB.hv
  obtain ⟨a0, a1, a2⟩ := kindsA_get kk hk7
  have k0 : W.cell? ⟨ba, kk * 3, none⟩ = some (.func (.func (tfun kk)) #[] #[]) := by rw [Lib.cell_of_heap hB.ha]; exact a0
  have k1 : W.cell? ⟨ba, kk * 3 + 1, none⟩ = some (.func (.func (nfun kk)) #[] #[]) := by rw [Lib.cell_of_heap hB.ha]; exact a1
  have k2 : W.cell? ⟨ba, kk * 3 + 2, none⟩ = some (.bool (cnest kk)) := by rw [Lib.cell_of_heap hB.ha]; exact a2
  have ht := tfun_ent kk
  have hn := nfun_ent kk
  clear a0 a1 a2
  generalize tfun kk = ft at *
  generalize nfun kk = fn at *
  rw [hcn] at k2
  clear hcn
  have HB := Lib.hid hB
  clear hB
  have HES : Hid (es.size = V.length) := Lib.hid HB.out.size
  go_enter Tryz.func82, Tryz.ntmps82
  go_wp2_with fail
  refine (HT.out _ (((Below.refl _ _).alloc (Nat.le_refl _) _).alloc (by simp) _)).mono ?_; rintro e w1 ⟨rfl, hb⟩
  have hb1 : Below W.heap.size W w1 := (((Below.refl _ _).alloc (Nat.le_refl _) _).alloc (by simp) _).trans (hb.mono (by simp; omega))
  have hc : w1.heap[W.heap.size]? = some (.cells #[.int .u8 (kk : Int), .string nx, .string tx, .int .i64 nu, .int .i64 0] 78 (0, 0)) := (hb.block _ (by simp; omega)).trans (heap_old (heap_new _ _ _ rfl))
  have hq : w1.heap[W.heap.size + 1]? = some (.cells #[.func (.func ft) #[] #[], .func (.func fn) #[] #[], .bool false] 102 (0, 0)) := (hb.block _ (by simp)).trans (heap_new _ _ _ (by simp))
  clear hb
  have w1c0 : w1.cell? ⟨W.heap.size, 0, none⟩ = some (.int .u8 (kk : Int)) := by rw [Lib.cell_of_heap hc]; rfl
  have w1c1 : w1.cell? ⟨W.heap.size, 1, none⟩ = some (.string nx) := by rw [Lib.cell_of_heap hc]; rfl
  have w1c2 : w1.cell? ⟨W.heap.size, 2, none⟩ = some (.string tx) := by rw [Lib.cell_of_heap hc]; rfl
  have w1c3 : w1.cell? ⟨W.heap.size, 3, none⟩ = some (.int .i64 nu) := by rw [Lib.cell_of_heap hc]; rfl
  have w1c4 : w1.cell? ⟨W.heap.size, 4, none⟩ = some (.int .i64 0) := by rw [Lib.cell_of_heap hc]; rfl
  have w1q0 : w1.cell? ⟨W.heap.size + 1, 0, none⟩ = some (.func (.func ft) #[] #[]) := by rw [Lib.cell_of_heap hq]; rfl
  have w1q1 : w1.cell? ⟨W.heap.size + 1, 1, none⟩ = some (.func (.func fn) #[] #[]) := by rw [Lib.cell_of_heap hq]; rfl
  have w1q2 : w1.cell? ⟨W.heap.size + 1, 2, none⟩ = some (.bool false) := by rw [Lib.cell_of_heap hq]; rfl
  have HC := Lib.hid hc
  have HQ := Lib.hid hq
  have HB1 := Lib.hid hb1
  clear hc hq hb1
  go_wp2_with fail
  refine (HN.out _).mono ?_; rintro e w2 ⟨rfl, hb⟩
  clear w1c0 w1c1 w1c2 w1c3 w1c4 w1q0 w1q1 w1q2
  have hb2 : Below W.heap.size W w2 := HB1.out.trans (hb.mono HB1.out.size)
  have hc : w2.heap[W.heap.size]? = some (.cells #[.int .u8 (kk : Int), .string nx, .string tx, .int .i64 nu, .int .i64 0] 78 (0, 0)) := (hb.block _ (heap_lt HC.out)).trans HC.out
  have hq : w2.heap[W.heap.size + 1]? = some (.cells #[.func (.func ft) #[] #[], .func (.func fn) #[] #[], .bool false] 102 (0, 0)) := (hb.block _ (heap_lt HQ.out)).trans HQ.out
  clear hb
  have w2c0 : w2.cell? ⟨W.heap.size, 0, none⟩ = some (.int .u8 (kk : Int)) := by rw [Lib.cell_of_heap hc]; rfl
  have w2c1 : w2.cell? ⟨W.heap.size, 1, none⟩ = some (.string nx) := by rw [Lib.cell_of_heap hc]; rfl
  have w2c2 : w2.cell? ⟨W.heap.size, 2, none⟩ = some (.string tx) := by rw [Lib.cell_of_heap hc]; rfl
  have w2c3 : w2.cell? ⟨W.heap.size, 3, none⟩ = some (.int .i64 nu) := by rw [Lib.cell_of_heap hc]; rfl
  have w2c4 : w2.cell? ⟨W.heap.size, 4, none⟩ = some (.int .i64 0) := by rw [Lib.cell_of_heap hc]; rfl
  have w2q0 : w2.cell? ⟨W.heap.size + 1, 0, none⟩ = some (.func (.func ft) #[] #[]) := by rw [Lib.cell_of_heap hq]; rfl
  have w2q1 : w2.cell? ⟨W.heap.size + 1, 1, none⟩ = some (.func (.func fn) #[] #[]) := by rw [Lib.cell_of_heap hq]; rfl
  have w2q2 : w2.cell? ⟨W.heap.size + 1, 2, none⟩ = some (.bool false) := by rw [Lib.cell_of_heap hq]; rfl
  have HC2 := Lib.hid hc
  have HQ2 := Lib.hid hq
  have HB2 := Lib.hid hb2
  clear hc hq hb2 HC HQ HB1
  have hbh := HB.out.below HB2.out
  have e0 : w2.cell? ⟨be, 0, none⟩ = some (.slice (some ⟨g, 0, none⟩) V.length V.length) := by rw [Lib.cell_of_heap hbh.he]; rfl
  have hks : k < es.size := by rw [hbh.size]; exact hk
  have e1 : w2.cell? ⟨g, k, none⟩ = some (es[k]) := by rw [Lib.cell_of_heap hbh.hg]; exact Array.getElem?_eq_getElem hks
  have e2 : w2.frozen? ⟨g, k, none⟩ = false := Lib.frozen_of_heap hbh.hg k
  generalize es[k] = ek at *
  have HBH := Lib.hid hbh
  clear hbh
  go_wp2_with fail
  refine wp_loop_rounds 1 ?_; rw [rounds_succ]
  go_wp2_with fail
  go_ret
  exact bend_yes (n := 1) HV.out hd hk HES.out HBH.out.hg rfl (grown_below HB2.out _) (fun i _ => rfl) (fun i h1 h2 => by omega)
set_option maxRecDepth 100000 in
set_option maxHeartbeats 1000000 in
theorem bw_zero_nest (w0 : World) (V : List Cel) (b off cap bv ba bw be g : Nat) (es : Array Value) (W : World) (k d : Nat) (hB : BH w0 V b off cap bv ba bw be g es W) (kk : Nat) (nx tx : ByteArray) (nu : Int)
    (hk : k < V.length) (hl : V.length ≤ 100000) (hd : d ≤ 16)
    (c0 : W.cell? ⟨b, off + k * 5, none⟩ = some (.int .u8 (kk : Int))) (c1 : W.cell? ⟨b, off + k * 5 + 1, none⟩ = some (.string nx)) (c2 : W.cell? ⟨b, off + k * 5 + 2, none⟩ = some (.string tx)) (c3 : W.cell? ⟨b, off + k * 5 + 3, none⟩ = some (.int .i64 nu)) (c4 : W.cell? ⟨b, off + k * 5 + 4, none⟩ = some (.int .i64 0))
    (hk7 : kk ≤ 7) (HT : Hid (∀ w : World, Below W.heap.size W w → Calls Tryz.prog (tfun kk) #[.string tx] w fun e w' => e = .returned (.bool true) ∧ Below w.heap.size w w'))
    (HN : Hid (∀ w : World, Calls Tryz.prog (nfun kk) #[.int .i64 nu] w fun e w' => e = .returned (.bool true) ∧ Below w.heap.size w w'))
    (hcn : cnest kk = true) (hd1 : 0 < d) (hval : valN d (V.drop k) = some 1) :
    Calls Tryz.prog 82 #[.int .i64 (k : Int), .int .i64 (d : Int), .pointer (some ⟨bv, 0, none⟩), .pointer (some ⟨ba, 0, none⟩), .pointer (some ⟨bw, 0, none⟩), .pointer (some ⟨be, 0, none⟩)] W fun e w' => BEnd V k d g es (endI V k d) e W w' := by
  have v0 : W.cell? ⟨bv, 0, none⟩ = some (.slice (some ⟨b, off, none⟩) V.length cap) := by rw [Lib.cell_of_heap hB.hv]; rfl
  have HV := Lib.hid hval
  clear hval
  have lba := heap_lt hB.ha
  have lbv := heap_lt hB.hv
  obtain ⟨a0, a1, a2⟩ := kindsA_get kk hk7
  have k0 : W.cell? ⟨ba, kk * 3, none⟩ = some (.func (.func (tfun kk)) #[] #[]) := by rw [Lib.cell_of_heap hB.ha]; exact a0
  have k1 : W.cell? ⟨ba, kk * 3 + 1, none⟩ = some (.func (.func (nfun kk)) #[] #[]) := by rw [Lib.cell_of_heap hB.ha]; exact a1
  have k2 : W.cell? ⟨ba, kk * 3 + 2, none⟩ = some (.bool (cnest kk)) := by rw [Lib.cell_of_heap hB.ha]; exact a2
  have ht := tfun_ent kk
  have hn := nfun_ent kk
  clear a0 a1 a2
  generalize tfun kk = ft at *
  generalize nfun kk = fn at *
  rw [hcn] at k2
  clear hcn
  have HB := Lib.hid hB
  clear hB
  have HES : Hid (es.size = V.length) := Lib.hid HB.out.size
  go_enter Tryz.func82, Tryz.ntmps82
  go_wp2_with fail
  refine (HT.out _ (((Below.refl _ _).alloc (Nat.le_refl _) _).alloc (by simp) _)).mono ?_; rintro e w1 ⟨rfl, hb⟩
  have hb1 : Below W.heap.size W w1 := (((Below.refl _ _).alloc (Nat.le_refl _) _).alloc (by simp) _).trans (hb.mono (by simp; omega))
  have hc : w1.heap[W.heap.size]? = some (.cells #[.int .u8 (kk : Int), .string nx, .string tx, .int .i64 nu, .int .i64 0] 78 (0, 0)) := (hb.block _ (by simp; omega)).trans (heap_old (heap_new _ _ _ rfl))
  have hq : w1.heap[W.heap.size + 1]? = some (.cells #[.func (.func ft) #[] #[], .func (.func fn) #[] #[], .bool true] 102 (0, 0)) := (hb.block _ (by simp)).trans (heap_new _ _ _ (by simp))
  clear hb
  have w1c0 : w1.cell? ⟨W.heap.size, 0, none⟩ = some (.int .u8 (kk : Int)) := by rw [Lib.cell_of_heap hc]; rfl
  have w1c1 : w1.cell? ⟨W.heap.size, 1, none⟩ = some (.string nx) := by rw [Lib.cell_of_heap hc]; rfl
  have w1c2 : w1.cell? ⟨W.heap.size, 2, none⟩ = some (.string tx) := by rw [Lib.cell_of_heap hc]; rfl
  have w1c3 : w1.cell? ⟨W.heap.size, 3, none⟩ = some (.int .i64 nu) := by rw [Lib.cell_of_heap hc]; rfl
  have w1c4 : w1.cell? ⟨W.heap.size, 4, none⟩ = some (.int .i64 0) := by rw [Lib.cell_of_heap hc]; rfl
  have w1q0 : w1.cell? ⟨W.heap.size + 1, 0, none⟩ = some (.func (.func ft) #[] #[]) := by rw [Lib.cell_of_heap hq]; rfl
  have w1q1 : w1.cell? ⟨W.heap.size + 1, 1, none⟩ = some (.func (.func fn) #[] #[]) := by rw [Lib.cell_of_heap hq]; rfl
  have w1q2 : w1.cell? ⟨W.heap.size + 1, 2, none⟩ = some (.bool true) := by rw [Lib.cell_of_heap hq]; rfl
  have HC := Lib.hid hc
  have HQ := Lib.hid hq
  have HB1 := Lib.hid hb1
  clear hc hq hb1
  go_wp2_with fail
  refine (HN.out _).mono ?_; rintro e w2 ⟨rfl, hb⟩
  clear w1c0 w1c1 w1c2 w1c3 w1c4 w1q0 w1q1 w1q2
  have hb2 : Below W.heap.size W w2 := HB1.out.trans (hb.mono HB1.out.size)
  have hc : w2.heap[W.heap.size]? = some (.cells #[.int .u8 (kk : Int), .string nx, .string tx, .int .i64 nu, .int .i64 0] 78 (0, 0)) := (hb.block _ (heap_lt HC.out)).trans HC.out
  have hq : w2.heap[W.heap.size + 1]? = some (.cells #[.func (.func ft) #[] #[], .func (.func fn) #[] #[], .bool true] 102 (0, 0)) := (hb.block _ (heap_lt HQ.out)).trans HQ.out
  clear hb
  have w2c0 : w2.cell? ⟨W.heap.size, 0, none⟩ = some (.int .u8 (kk : Int)) := by rw [Lib.cell_of_heap hc]; rfl
  have w2c1 : w2.cell? ⟨W.heap.size, 1, none⟩ = some (.string nx) := by rw [Lib.cell_of_heap hc]; rfl
  have w2c2 : w2.cell? ⟨W.heap.size, 2, none⟩ = some (.string tx) := by rw [Lib.cell_of_heap hc]; rfl
  have w2c3 : w2.cell? ⟨W.heap.size, 3, none⟩ = some (.int .i64 nu) := by rw [Lib.cell_of_heap hc]; rfl
  have w2c4 : w2.cell? ⟨W.heap.size, 4, none⟩ = some (.int .i64 0) := by rw [Lib.cell_of_heap hc]; rfl
  have w2q0 : w2.cell? ⟨W.heap.size + 1, 0, none⟩ = some (.func (.func ft) #[] #[]) := by rw [Lib.cell_of_heap hq]; rfl
  have w2q1 : w2.cell? ⟨W.heap.size + 1, 1, none⟩ = some (.func (.func fn) #[] #[]) := by rw [Lib.cell_of_heap hq]; rfl
  have w2q2 : w2.cell? ⟨W.heap.size + 1, 2, none⟩ = some (.bool true) := by rw [Lib.cell_of_heap hq]; rfl
  have HC2 := Lib.hid hc
  have HQ2 := Lib.hid hq
  have HB2 := Lib.hid hb2
  clear hc hq hb2 HC HQ HB1
  have hbh := HB.out.below HB2.out
  have e0 : w2.cell? ⟨be, 0, none⟩ = some (.slice (some ⟨g, 0, none⟩) V.length V.length) := by rw [Lib.cell_of_heap hbh.he]; rfl
  have hks : k < es.size := by rw [hbh.size]; exact hk
  have e1 : w2.cell? ⟨g, k, none⟩ = some (es[k]) := by rw [Lib.cell_of_heap hbh.hg]; exact Array.getElem?_eq_getElem hks
  have e2 : w2.frozen? ⟨g, k, none⟩ = false := Lib.frozen_of_heap hbh.hg k
  generalize es[k] = ek at *
  have HBH := Lib.hid hbh
  clear hbh
  go_wp2_with fail
  refine wp_loop_rounds 1 ?_; rw [rounds_succ]
  go_wp2_with fail
  go_ret
  exact bend_yes (n := 1) HV.out hd hk HES.out HBH.out.hg rfl (grown_below HB2.out _) (fun i _ => rfl) (fun i h1 h2 => by omega)
end Go.Proofs.YtgacpmdebjndkaaGreatDoor
namespace Go.Proofs.YtgacpmdebjndkaaGreatDoor
open Go.RowKit
theorem bend_none {w0 : World} {V : List Cel} {b off cap bv ba bw be g k d : Nat} {es ez : Array Value} {W wz : World} (hn : valN d (V.drop k) = none) (hB : BH w0 V b off cap bv ba bw be g ez wz) (hs : es.size = V.length) (hw : W.grownBy wz (some g)) :
    BEnd V k d g es (endI V k d) (.returned (.int .i64 (-1))) W wz := by
  have he : endI V k d = -1 := by unfold endI; rw [hn]
  rw [he]
  refine ⟨rfl, hw, ez, hB.hg, by rw [hB.size, hs], ?_⟩
  intro n h
  rw [hn] at h; cases h
theorem BH.other {w0 : World} {V : List Cel} {b off cap bv ba bw be g r : Nat} {es : Array Value} {W W' : World} (h : BH w0 V b off cap bv ba bw be g es W) (hb : W.grownBy W' (some r)) (hr : w0.heap.size ≤ r) (hM : bv < r ∧ ba < r ∧ bw < r ∧ be < r ∧ g < r) : BH w0 V b off cap bv ba bw be g es W' :=
  { h with
    hv := (hb.block _ (heap_lt h.hv) (fun e => by have := Option.some.inj e; omega)).trans h.hv
    ha := (hb.block _ (heap_lt h.ha) (fun e => by have := Option.some.inj e; omega)).trans h.ha
    hw := (hb.block _ (heap_lt h.hw) (fun e => by have := Option.some.inj e; omega)).trans h.hw
    he := (hb.block _ (heap_lt h.he) (fun e => by have := Option.some.inj e; omega)).trans h.he
    hg := (hb.block _ (heap_lt h.hg) (fun e => by have := Option.some.inj e; omega)).trans h.hg
    bel := h.bel.grown hb h.bel.size (fun k hk => by have := Option.some.inj hk; omega) }
theorem grown_new {W w w' : World} {g r : Nat} (h : W.grownBy w (some g)) (hb : w.grownBy w' (some r)) (hr : W.heap.size ≤ r) : W.grownBy w' (some g) :=
  ⟨hb.os.trans h.os, hb.tape.trans h.tape, hb.output.trans h.output, Nat.le_trans h.size hb.size, fun i hi hne => (hb.block i (Nat.lt_of_lt_of_le hi h.size) (fun e => by have := Option.some.inj e; omega)).trans (h.block i hi hne)⟩
theorem fill_next {V : List Cel} {k u p n : Nat} {es esr es5 : Array Value} (hp : p = k + 1 + u) (h : (∀ i, i < k + 1 ∨ k + 1 + u ≤ i → esr[i]? = es[i]?) ∧ ∀ i, k + 1 ≤ i → i < k + 1 + u → esr[i]? = some (.int .i64 (endI V i 16)))
    (h5 : (∀ i, i < p ∨ p + n ≤ i → es5[i]? = esr[i]?) ∧ ∀ i, p ≤ i → i < p + n → es5[i]? = some (.int .i64 (endI V i 16))) :
    (∀ i, i < k + 1 ∨ k + 1 + (u + n) ≤ i → es5[i]? = es[i]?) ∧ ∀ i, k + 1 ≤ i → i < k + 1 + (u + n) → es5[i]? = some (.int .i64 (endI V i 16)) := by
  subst hp
  refine ⟨fun i hi => ?_, fun i h1 h2 => ?_⟩
  · rw [h5.1 i (by omega)]
    exact h.1 i (by omega)
  · by_cases hi : i < k + 1 + u
    · rw [h5.1 i (by omega)]; exact h.2 i h1 hi
    · exact h5.2 i (by omega) (by omega)
theorem amongB_app (nm : List (List UInt8)) (x : List UInt8) : amongB (nm ++ [[]]) x = (amongB nm x || x.isEmpty) := by
  unfold amongB
  rw [List.any_append]
  cases x <;> simp
set_option maxRecDepth 100000 in
set_option maxHeartbeats 1000000 in
theorem bw_list (w0 : World) (V : List Cel) (b off cap bv ba bw be g : Nat) (es : Array Value) (W : World) (k d : Nat) (hB : BH w0 V b off cap bv ba bw be g es W) (kk : Nat) (nx tx : ByteArray) (nu : Int) (m : Nat)
    (hk : k < V.length) (hl : V.length ≤ 100000) (hd : d ≤ 16)
    (c0 : W.cell? ⟨b, off + k * 5, none⟩ = some (.int .u8 (kk : Int))) (c1 : W.cell? ⟨b, off + k * 5 + 1, none⟩ = some (.string nx)) (c2 : W.cell? ⟨b, off + k * 5 + 2, none⟩ = some (.string tx)) (c3 : W.cell? ⟨b, off + k * 5 + 3, none⟩ = some (.int .i64 nu)) (c4 : W.cell? ⟨b, off + k * 5 + 4, none⟩ = some (.int .i64 (m : Int)))
    (hk7 : kk ≤ 7) (HT : Hid (∀ w : World, Below W.heap.size W w → Calls Tryz.prog (tfun kk) #[.string tx] w fun e w' => e = .returned (.bool true) ∧ Below w.heap.size w w'))
    (HN : Hid (∀ w : World, Calls Tryz.prog (nfun kk) #[.int .i64 nu] w fun e w' => e = .returned (.bool true) ∧ Below w.heap.size w w'))
    (hkk : kk = 6) (hcn : cnest kk = true) (hd1 : 0 < d) (hm0 : 0 < m) (hmx : (m : Int) ≤ 9223372036854775807)
    (HROW : Hid (CelRow b off V w0)) (hbl : b < w0.heap.size) (HSM : Hid (∀ c ∈ V, c.name.length ≤ 100000)) (o : Option Nat) (hkids : kidsN (valN (d - 1)) true m [] (V.drop (k + 1)) = o) (hval : valN d (V.drop k) = o.map (1 + ·))
    (HTX : Hid (∀ (W' : World) (x : ByteArray), x.size ≤ 100000 → Below w0.heap.size w0 W' → Calls Tryz.prog 83 #[.string x] W' fun e w' => e = .returned (.int .i64 (chkE x.data.toList)) ∧ Below W'.heap.size W' w'))
    (HIH : Hid (∀ (W' : World) (es' : Array Value) (p : Nat), p < V.length → BH w0 V b off cap bv ba bw be g es' W' → Calls Tryz.prog 82 #[.int .i64 (p : Int), .int .i64 ((d : Int) - 1), .pointer (some ⟨bv, 0, none⟩), .pointer (some ⟨ba, 0, none⟩), .pointer (some ⟨bw, 0, none⟩), .pointer (some ⟨be, 0, none⟩)] W' fun e w' => BEnd V p (d - 1) g es' (endI V p (d - 1)) e W' w')) :
    Calls Tryz.prog 82 #[.int .i64 (k : Int), .int .i64 (d : Int), .pointer (some ⟨bv, 0, none⟩), .pointer (some ⟨ba, 0, none⟩), .pointer (some ⟨bw, 0, none⟩), .pointer (some ⟨be, 0, none⟩)] W fun e w' => BEnd V k d g es (endI V k d) e W w' := by
  have v0 : W.cell? ⟨bv, 0, none⟩ = some (.slice (some ⟨b, off, none⟩) V.length cap) := by rw [Lib.cell_of_heap hB.hv]; rfl
  have HV := Lib.hid hval
  have HK0 := Lib.hid (KS.start hkids)
  have HKK := Lib.hid hkk
  have hd2 : ((d : Int) == 0) = false := by rw [beq_eq_false_iff_ne]; omega
  have t6 : ((kk : Int) == 6) = true := by rw [HKK.out]; rfl
  have t7 : ((kk : Int) == 7) = false := by rw [HKK.out]; rfl
  clear hval hkids hkk
  have lba := heap_lt hB.ha
  have lbv := heap_lt hB.hv
  obtain ⟨a0, a1, a2⟩ := kindsA_get kk hk7
  have k0 : W.cell? ⟨ba, kk * 3, none⟩ = some (.func (.func (tfun kk)) #[] #[]) := by rw [Lib.cell_of_heap hB.ha]; exact a0
  have k1 : W.cell? ⟨ba, kk * 3 + 1, none⟩ = some (.func (.func (nfun kk)) #[] #[]) := by rw [Lib.cell_of_heap hB.ha]; exact a1
  have k2 : W.cell? ⟨ba, kk * 3 + 2, none⟩ = some (.bool (cnest kk)) := by rw [Lib.cell_of_heap hB.ha]; exact a2
  have ht := tfun_ent kk
  have hn := nfun_ent kk
  clear a0 a1 a2
  generalize tfun kk = ft at *
  generalize nfun kk = fn at *
  rw [hcn] at k2
  clear hcn
  have HB := Lib.hid hB
  clear hB
  have HES : Hid (es.size = V.length) := Lib.hid HB.out.size
  have hmm := @run_makeMap Tryz.prog
  go_enter Tryz.func82, Tryz.ntmps82
  go_wp2_with fail
  refine (HT.out _ (((Below.refl _ _).alloc (Nat.le_refl _) _).alloc (by simp) _)).mono ?_; rintro e w1 ⟨rfl, hb⟩
  have hb1 : Below W.heap.size W w1 := (((Below.refl _ _).alloc (Nat.le_refl _) _).alloc (by simp) _).trans (hb.mono (by simp; omega))
  have hc : w1.heap[W.heap.size]? = some (.cells #[.int .u8 (kk : Int), .string nx, .string tx, .int .i64 nu, .int .i64 (m : Int)] 78 (0, 0)) := (hb.block _ (by simp; omega)).trans (heap_old (heap_new _ _ _ rfl))
  have hq : w1.heap[W.heap.size + 1]? = some (.cells #[.func (.func ft) #[] #[], .func (.func fn) #[] #[], .bool true] 102 (0, 0)) := (hb.block _ (by simp)).trans (heap_new _ _ _ (by simp))
  clear hb
  have w1c0 : w1.cell? ⟨W.heap.size, 0, none⟩ = some (.int .u8 (kk : Int)) := by rw [Lib.cell_of_heap hc]; rfl
  have w1c1 : w1.cell? ⟨W.heap.size, 1, none⟩ = some (.string nx) := by rw [Lib.cell_of_heap hc]; rfl
  have w1c2 : w1.cell? ⟨W.heap.size, 2, none⟩ = some (.string tx) := by rw [Lib.cell_of_heap hc]; rfl
  have w1c3 : w1.cell? ⟨W.heap.size, 3, none⟩ = some (.int .i64 nu) := by rw [Lib.cell_of_heap hc]; rfl
  have w1c4 : w1.cell? ⟨W.heap.size, 4, none⟩ = some (.int .i64 (m : Int)) := by rw [Lib.cell_of_heap hc]; rfl
  have w1q0 : w1.cell? ⟨W.heap.size + 1, 0, none⟩ = some (.func (.func ft) #[] #[]) := by rw [Lib.cell_of_heap hq]; rfl
  have w1q1 : w1.cell? ⟨W.heap.size + 1, 1, none⟩ = some (.func (.func fn) #[] #[]) := by rw [Lib.cell_of_heap hq]; rfl
  have w1q2 : w1.cell? ⟨W.heap.size + 1, 2, none⟩ = some (.bool true) := by rw [Lib.cell_of_heap hq]; rfl
  have HC := Lib.hid hc
  have HQ := Lib.hid hq
  have HB1 := Lib.hid hb1
  clear hc hq hb1
  go_wp2_with fail
  refine (HN.out _).mono ?_; rintro e w2 ⟨rfl, hb⟩
  clear w1c0 w1c1 w1c2 w1c3 w1c4 w1q0 w1q1 w1q2
  have hb2 : Below W.heap.size W w2 := HB1.out.trans (hb.mono HB1.out.size)
  have hc : w2.heap[W.heap.size]? = some (.cells #[.int .u8 (kk : Int), .string nx, .string tx, .int .i64 nu, .int .i64 (m : Int)] 78 (0, 0)) := (hb.block _ (heap_lt HC.out)).trans HC.out
  have hq : w2.heap[W.heap.size + 1]? = some (.cells #[.func (.func ft) #[] #[], .func (.func fn) #[] #[], .bool true] 102 (0, 0)) := (hb.block _ (heap_lt HQ.out)).trans HQ.out
  clear hb
  have w2c0 : w2.cell? ⟨W.heap.size, 0, none⟩ = some (.int .u8 (kk : Int)) := by rw [Lib.cell_of_heap hc]; rfl
  have w2c1 : w2.cell? ⟨W.heap.size, 1, none⟩ = some (.string nx) := by rw [Lib.cell_of_heap hc]; rfl
  have w2c2 : w2.cell? ⟨W.heap.size, 2, none⟩ = some (.string tx) := by rw [Lib.cell_of_heap hc]; rfl
  have w2c3 : w2.cell? ⟨W.heap.size, 3, none⟩ = some (.int .i64 nu) := by rw [Lib.cell_of_heap hc]; rfl
  have w2c4 : w2.cell? ⟨W.heap.size, 4, none⟩ = some (.int .i64 (m : Int)) := by rw [Lib.cell_of_heap hc]; rfl
  have w2q0 : w2.cell? ⟨W.heap.size + 1, 0, none⟩ = some (.func (.func ft) #[] #[]) := by rw [Lib.cell_of_heap hq]; rfl
  have w2q1 : w2.cell? ⟨W.heap.size + 1, 1, none⟩ = some (.func (.func fn) #[] #[]) := by rw [Lib.cell_of_heap hq]; rfl
  have w2q2 : w2.cell? ⟨W.heap.size + 1, 2, none⟩ = some (.bool true) := by rw [Lib.cell_of_heap hq]; rfl
  have HC2 := Lib.hid hc
  have HQ2 := Lib.hid hq
  have HB2 := Lib.hid hb2
  clear hc hq hb2 HC HQ HB1
  obtain ⟨wm, hrun, hN, hgr⟩ := (NamesM.made w2).update ⟨#[]⟩ (by decide) (by decide)
  have HNM : Hid (NamesM w2.heap.size ([] ++ [[]]) wm) := Lib.hid hN
  have hz2 := HB2.out.size
  have hgw : W.grownBy wm (some g) := ⟨hgr.os.trans HB2.out.os, hgr.tape.trans HB2.out.tape, hgr.output.trans HB2.out.output, Nat.le_trans hz2 (Nat.le_trans (by simp) hgr.size), fun i hi _ => ((hgr.block i (by simp; omega) (fun e => by have := Option.some.inj e; omega)).trans (Below.heap_alloc _ _ _ (by omega))).trans (HB2.out.block i hi)⟩
  have hbm : BH w0 V b off cap bv ba bw be g es wm := HB.out.below ⟨hgw.os, hgw.tape, hgw.output, hgw.size, fun i hi => ((hgr.block i (by simp; omega) (fun e => by have := Option.some.inj e; omega)).trans (Below.heap_alloc _ _ _ (by omega))).trans (HB2.out.block i hi)⟩
  have hcm : wm.heap[W.heap.size]? = some (.cells #[.int .u8 (kk : Int), .string nx, .string tx, .int .i64 nu, .int .i64 (m : Int)] 78 (0, 0)) := ((hgr.block _ (by have := heap_lt HC2.out; simp; omega) (fun e => by have h1 := Option.some.inj e; have h2 := heap_lt HC2.out; omega)).trans (Below.heap_alloc _ _ _ (heap_lt HC2.out))).trans HC2.out
  have HGW := Lib.hid hgw
  have HBM := Lib.hid hbm
  have HCM := Lib.hid hcm
  have m4 : wm.cell? ⟨W.heap.size, 4, none⟩ = some (.int .i64 (m : Int)) := by rw [Lib.cell_of_heap hcm]; rfl
  clear hgw hbm hcm
  go_wp2_with fail
  clear hrun hmm ht hn m4
  have LM : Hid (bv < w2.heap.size ∧ ba < w2.heap.size ∧ bw < w2.heap.size ∧ be < w2.heap.size ∧ g < w2.heap.size) := Lib.hid ⟨Nat.lt_of_lt_of_le (heap_lt HB.out.hv) hz2, Nat.lt_of_lt_of_le (heap_lt HB.out.ha) hz2, Nat.lt_of_lt_of_le (heap_lt HB.out.hw) hz2, Nat.lt_of_lt_of_le (heap_lt HB.out.he) hz2, Nat.lt_of_lt_of_le (heap_lt HB.out.hg) hz2⟩
  have L0 : w0.heap.size ≤ w2.heap.size := Nat.le_trans HB.out.bel.size hz2
  have lW : W.heap.size < w2.heap.size := heap_lt HC2.out
  have lgW : g < W.heap.size := heap_lt HB.out.hg
  clear hN hgr w2c0 w2c1 w2c2 w2c3 w2c4 w2q0 w2q1 w2q2 HQ2 HC2 HB2 HB hz2
  generalize w2.heap.size = bm at *
  go_loopg [12, 79] m (fun gk nv ct wr => ∃ (j : Nat) (esr : Array Value), ct = .int .i64 j ∧ gk + j = m ∧ Hid (BH w0 V b off cap bv ba bw be g esr wr) ∧ Hid (W.grownBy wr (some g)) ∧
    ((∃ (p u : Nat) (nm : List (List UInt8)), nv = .int .i64 (p : Int) ∧ p ≤ V.length ∧ Hid (p = k + 1 + u) ∧ nm.length ≤ j ∧ j ≤ u ∧ Hid (KS V (d - 1) k true o gk nm u) ∧ Hid (NamesM bm (nm ++ [[]]) wr) ∧ Hid (wr.heap[W.heap.size]? = some (.cells #[.int .u8 (kk : Int), .string nx, .string tx, .int .i64 nu, .int .i64 (m : Int)] 78 (0, 0))) ∧
      Hid ((∀ i, i < k + 1 ∨ k + 1 + u ≤ i → esr[i]? = es[i]?) ∧ ∀ i, k + 1 ≤ i → i < k + 1 + u → esr[i]? = some (.int .i64 (endI V i 16)))) ∨ (nv = .int .i64 (-1) ∧ Hid (o = none))))
  case atStart => exact ⟨0, es, rfl, by omega, HBM, HGW, Or.inl ⟨k + 1, 0, [], by go_num, by omega, Lib.hid rfl, Nat.le_refl _, Nat.le_refl _, HK0, HNM, HCM, Lib.hid ⟨fun i _ => rfl, fun i h1 h2 => by omega⟩⟩⟩
  case round =>
    rename World => wr
    obtain ⟨j, esr, rfl, hj, HBr, HGr, hrel2⟩ := hrel
    rcases hrel2 with ⟨p, u, nm, rfl, hp, HPU, hnm, hju, HK, HN, HC, HF⟩ | ⟨rfl, HO⟩
    · by_cases hg0 : gk = 0
      · subst hg0
        have HO := Lib.hid HK.out.done
        have e0 : wr.cell? ⟨be, 0, none⟩ = some (.slice (some ⟨g, 0, none⟩) V.length V.length) := by rw [Lib.cell_of_heap HBr.out.he]; rfl
        have hks : k < esr.size := by rw [HBr.out.size]; exact hk
        have e1 : wr.cell? ⟨g, k, none⟩ = some (esr[k]) := by rw [Lib.cell_of_heap HBr.out.hg]; exact Array.getElem?_eq_getElem hks
        have e2 : wr.frozen? ⟨g, k, none⟩ = false := Lib.frozen_of_heap HBr.out.hg k
        generalize esr[k] = ek at *
        have hval2 : valN d (V.drop k) = some (1 + u) := by rw [HV.out, HO.out]; rfl
        have HPK : Hid (p = k + (1 + u)) := Lib.hid (by rw [HPU.out]; omega)
        have HFIN : Hid (BEnd V k d g es (endI V k d) (.returned (.int .i64 (p : Int))) W (wr.setCell ⟨g, k, none⟩ (.int .i64 (p : Int)))) := Lib.hid (by
          rw [HPK.out]
          exact bend_yes hval2 hd hk HES.out HBr.out.hg (by rw [HBr.out.size, HES.out]) HGr.out (fun i h => HF.out.1 i (by omega)) (fun i h1 h2 => HF.out.2 i h1 (by omega)))
        clear hval2
        go_wp2_with fail
        go_ret
        exact HFIN.out
      · obtain ⟨g1, rfl⟩ : ∃ g1, gk = g1 + 1 := ⟨gk - 1, by omega⟩
        clear hg0
        have r0 : wr.cell? ⟨bv, 0, none⟩ = some (.slice (some ⟨b, off, none⟩) V.length cap) := by rw [Lib.cell_of_heap HBr.out.hv]; rfl
        by_cases hpl : p < V.length
        · obtain ⟨_, r1, _⟩ := (HROW.out.below HBr.out.bel hbl) p hpl
          have r2 : wr.cell? ⟨W.heap.size, 0, none⟩ = some (.int .u8 (kk : Int)) := by rw [Lib.cell_of_heap HC.out]; rfl
          have hxz : (⟨V[p].name.toArray⟩ : ByteArray).size = V[p].name.length := by show V[p].name.toArray.size = _; simp
          have hxl : (⟨V[p].name.toArray⟩ : ByteArray).data.toList = V[p].name := by simp
          have hxs : (⟨V[p].name.toArray⟩ : ByteArray).size ≤ 100000 := by rw [hxz]; exact HSM.out _ (List.getElem_mem _)
          have HBAD := Lib.hid (fun h => HK.out.bad HPU.out hpl h)
          have HFAIL := Lib.hid (fun h h' => HK.out.fail HPU.out hpl h h')
          have HNEXT := Lib.hid (fun n h h' => HK.out.next (n := n) HPU.out hpl h h')
          rw [← hxl] at HBAD HFAIL HNEXT
          clear hxz hxl
          generalize (⟨V[p].name.toArray⟩ : ByteArray) = x at *
          have hu : u ≤ 100000 := by have := HPU.out; omega
          have hlook := HN.out.lookup x (by unfold maxLen; omega)
          rw [amongB_app] at hlook
          obtain ⟨wn, hrun, hN2, hgr⟩ := HN.out.update x (by unfold maxLen; omega) (by simp; omega)
          rcases empty_z x with ⟨z0, z1, z2, z3⟩ | ⟨z0, z1, z2, z3⟩
          · have hne : x.data.toList.isEmpty = false := by rw [← ByteArray.toList_eq]; exact z2
            have HO := Lib.hid (HBAD.out (by unfold okN; rw [if_pos rfl]; exact hne))
            clear hne hlook hrun hgr hN2
            have HFIN : Hid (BEnd V k d g es (endI V k d) (.returned (.int .i64 (-1))) W wr) := Lib.hid (bend_none (by rw [HV.out, HO.out]; rfl) HBr.out HES.out HGr.out)
            go_wp2_with fail
            go_ret
            exact HFIN.out
          · clear hlook
            have hok : okN true nm x.data.toList = true := by rw [z3]; rfl
            have HB5 : Hid (BH w0 V b off cap bv ba bw be g esr wn) := Lib.hid (HBr.out.other hgr L0 LM.out)
            have q0 : wn.cell? ⟨bw, 0, none⟩ = some (.func (.func 82) #[] #[.pointer (some ⟨bv, 0, none⟩), .pointer (some ⟨ba, 0, none⟩), .pointer (some ⟨bw, 0, none⟩), .pointer (some ⟨be, 0, none⟩)]) := by rw [Lib.cell_of_heap HB5.out.hw]; rfl
            have HGn : Hid (W.grownBy wn (some g)) := Lib.hid (grown_new HGr.out hgr (by omega))
            have HCn : Hid (wn.heap[W.heap.size]? = some (.cells #[.int .u8 (kk : Int), .string nx, .string tx, .int .i64 nu, .int .i64 (m : Int)] 78 (0, 0))) := Lib.hid ((hgr.block _ (heap_lt HC.out) (fun e => by have := Option.some.inj e; omega)).trans HC.out)
            have HNn := Lib.hid hN2
            clear hgr hN2
            cases hv : valN (d - 1) (V.drop p) with
            | none =>
              have HO := Lib.hid (HFAIL.out hok hv)
              have HI : Hid (Calls Tryz.prog 82 #[.int .i64 (p : Int), .int .i64 ((d : Int) - 1), .pointer (some ⟨bv, 0, none⟩), .pointer (some ⟨ba, 0, none⟩), .pointer (some ⟨bw, 0, none⟩), .pointer (some ⟨be, 0, none⟩)] wn fun e w' => BEnd V p (d - 1) g esr (-1) e wn w') := Lib.hid (by
                have := HIH.out wn esr p hpl HB5.out
                rw [endI_none hv] at this
                exact this)
              clear hv hok
              go_wp2_with fail
              refine HI.out.mono ?_; rintro e w5 hbe
              obtain ⟨rfl, hg5, es5, hh5, hs5, hf5⟩ := hbe
              have HB6 := Lib.hid (HB5.out.grown hg5 hh5 hs5)
              have HG6 := Lib.hid (grown_trans HGn.out hg5)
              clear hg5 hh5 hs5 hf5
              go_wp2_with fail
              go_roundg g1
              case measure => omega
              case rel => exact ⟨j + 1, es5, by go_num, by omega, HB6, HG6, Or.inr ⟨rfl, HO⟩⟩
            | some n =>
              have HO := Lib.hid (HNEXT.out n hok hv)
              have HI : Hid (Calls Tryz.prog 82 #[.int .i64 (p : Int), .int .i64 ((d : Int) - 1), .pointer (some ⟨bv, 0, none⟩), .pointer (some ⟨ba, 0, none⟩), .pointer (some ⟨bw, 0, none⟩), .pointer (some ⟨be, 0, none⟩)] wn fun e w' => BEnd V p (d - 1) g esr ((p + n : Nat) : Int) e wn w') := Lib.hid (by
                have := HIH.out wn esr p hpl HB5.out
                rw [endI_some hv] at this
                exact this)
              have hn1 := (valN_le _ _ _ hv).1
              have hn2 := (valN_le _ _ _ hv).2
              rw [List.length_drop] at hn2
              have HV2 := Lib.hid hv
              obtain ⟨p2, hp2⟩ : ∃ p2, p + n = p2 := ⟨_, rfl⟩
              have HP2 : Hid (p2 = k + 1 + (u + n)) := Lib.hid (by rw [← hp2, HPU.out]; omega)
              have hp3 : p2 ≤ V.length := by omega
              rw [hp2] at HI
              clear hv hok hp2 hn2
              go_wp2_with fail
              refine HI.out.mono ?_; rintro e w5 hbe
              obtain ⟨rfl, hg5, es5, hh5, hs5, hf5⟩ := hbe
              have HB6 := Lib.hid (HB5.out.grown hg5 hh5 hs5)
              have HG6 := Lib.hid (grown_trans HGn.out hg5)
              have HF6 := Lib.hid (fill_next HPU.out HF.out (hf5 n HV2.out))
              have HN6 : Hid (NamesM bm ((x.data.toList :: nm) ++ [[]]) w5) := Lib.hid (HNn.out.grown hg5 (fun e => by have h1 := Option.some.inj e; have h2 := LM.out.2.2.2.2; omega))
              have HC6 := Lib.hid ((hg5.block _ (heap_lt HCn.out) (fun e => by have h1 := Option.some.inj e; omega)).trans HCn.out)
              clear hg5 hh5 hs5 hf5
              go_wp2_with fail
              go_roundg g1
              case measure => omega
              case rel => exact ⟨j + 1, es5, by go_num, by omega, HB6, HG6, Or.inl ⟨p2, u + n, x.data.toList :: nm, rfl, hp3, HP2, by simp; omega, by omega, HO, HN6, HC6, HF6⟩⟩
        · have HO := Lib.hid (HK.out.out_ (by have := HPU.out; omega))
          have HFIN : Hid (BEnd V k d g es (endI V k d) (.returned (.int .i64 (-1))) W wr) := Lib.hid (bend_none (by rw [HV.out, HO.out]; rfl) HBr.out HES.out HGr.out)
          go_wp2_with fail
          go_ret
          exact HFIN.out
    · have HFIN : Hid (BEnd V k d g es (endI V k d) (.returned (.int .i64 (-1))) W wr) := Lib.hid (bend_none (by rw [HV.out, HO.out]; rfl) HBr.out HES.out HGr.out)
      by_cases hg0 : gk = 0
      · subst hg0
        go_wp2_with fail
        go_ret
        exact HFIN.out
      · have hlt : j < m := by omega
        go_wp2_with fail
        go_ret
        exact HFIN.out
end Go.Proofs.YtgacpmdebjndkaaGreatDoor
namespace Go.Proofs.YtgacpmdebjndkaaGreatDoor
open Go.RowKit
set_option maxRecDepth 100000 in
set_option maxHeartbeats 1000000 in
theorem bw_obj (w0 : World) (V : List Cel) (b off cap bv ba bw be g : Nat) (es : Array Value) (W : World) (k d : Nat) (hB : BH w0 V b off cap bv ba bw be g es W) (kk : Nat) (nx tx : ByteArray) (nu : Int) (m : Nat)
    (hk : k < V.length) (hl : V.length ≤ 100000) (hd : d ≤ 16)
    (c0 : W.cell? ⟨b, off + k * 5, none⟩ = some (.int .u8 (kk : Int))) (c1 : W.cell? ⟨b, off + k * 5 + 1, none⟩ = some (.string nx)) (c2 : W.cell? ⟨b, off + k * 5 + 2, none⟩ = some (.string tx)) (c3 : W.cell? ⟨b, off + k * 5 + 3, none⟩ = some (.int .i64 nu)) (c4 : W.cell? ⟨b, off + k * 5 + 4, none⟩ = some (.int .i64 (m : Int)))
    (hk7 : kk ≤ 7) (HT : Hid (∀ w : World, Below W.heap.size W w → Calls Tryz.prog (tfun kk) #[.string tx] w fun e w' => e = .returned (.bool true) ∧ Below w.heap.size w w'))
    (HN : Hid (∀ w : World, Calls Tryz.prog (nfun kk) #[.int .i64 nu] w fun e w' => e = .returned (.bool true) ∧ Below w.heap.size w w'))
    (hkk : kk = 7) (hcn : cnest kk = true) (hd1 : 0 < d) (hm0 : 0 < m) (hmx : (m : Int) ≤ 9223372036854775807)
    (HROW : Hid (CelRow b off V w0)) (hbl : b < w0.heap.size) (HSM : Hid (∀ c ∈ V, c.name.length ≤ 100000)) (o : Option Nat) (hkids : kidsN (valN (d - 1)) false m [] (V.drop (k + 1)) = o) (hval : valN d (V.drop k) = o.map (1 + ·))
    (HTX : Hid (∀ (W' : World) (x : ByteArray), x.size ≤ 100000 → Below w0.heap.size w0 W' → Calls Tryz.prog 83 #[.string x] W' fun e w' => e = .returned (.int .i64 (chkE x.data.toList)) ∧ Below W'.heap.size W' w'))
    (HIH : Hid (∀ (W' : World) (es' : Array Value) (p : Nat), p < V.length → BH w0 V b off cap bv ba bw be g es' W' → Calls Tryz.prog 82 #[.int .i64 (p : Int), .int .i64 ((d : Int) - 1), .pointer (some ⟨bv, 0, none⟩), .pointer (some ⟨ba, 0, none⟩), .pointer (some ⟨bw, 0, none⟩), .pointer (some ⟨be, 0, none⟩)] W' fun e w' => BEnd V p (d - 1) g es' (endI V p (d - 1)) e W' w')) :
    Calls Tryz.prog 82 #[.int .i64 (k : Int), .int .i64 (d : Int), .pointer (some ⟨bv, 0, none⟩), .pointer (some ⟨ba, 0, none⟩), .pointer (some ⟨bw, 0, none⟩), .pointer (some ⟨be, 0, none⟩)] W fun e w' => BEnd V k d g es (endI V k d) e W w' := by
  have v0 : W.cell? ⟨bv, 0, none⟩ = some (.slice (some ⟨b, off, none⟩) V.length cap) := by rw [Lib.cell_of_heap hB.hv]; rfl
  have HV := Lib.hid hval
  have HK0 := Lib.hid (KS.start hkids)
  have HKK := Lib.hid hkk
  have hd2 : ((d : Int) == 0) = false := by rw [beq_eq_false_iff_ne]; omega
  have t6 : ((kk : Int) == 6) = false := by rw [HKK.out]; rfl
  have t7 : ((kk : Int) == 7) = true := by rw [HKK.out]; rfl
  clear hval hkids hkk
  have lba := heap_lt hB.ha
  have lbv := heap_lt hB.hv
  obtain ⟨a0, a1, a2⟩ := kindsA_get kk hk7
  have k0 : W.cell? ⟨ba, kk * 3, none⟩ = some (.func (.func (tfun kk)) #[] #[]) := by rw [Lib.cell_of_heap hB.ha]; exact a0
  have k1 : W.cell? ⟨ba, kk * 3 + 1, none⟩ = some (.func (.func (nfun kk)) #[] #[]) := by rw [Lib.cell_of_heap hB.ha]; exact a1
  have k2 : W.cell? ⟨ba, kk * 3 + 2, none⟩ = some (.bool (cnest kk)) := by rw [Lib.cell_of_heap hB.ha]; exact a2
  have ht := tfun_ent kk
  have hn := nfun_ent kk
  clear a0 a1 a2
  generalize tfun kk = ft at *
  generalize nfun kk = fn at *
  rw [hcn] at k2
  clear hcn
  have HB := Lib.hid hB
  clear hB
  have HES : Hid (es.size = V.length) := Lib.hid HB.out.size
  have hmm := @run_makeMap Tryz.prog
  go_enter Tryz.func82, Tryz.ntmps82
  go_wp2_with fail
  refine (HT.out _ (((Below.refl _ _).alloc (Nat.le_refl _) _).alloc (by simp) _)).mono ?_; rintro e w1 ⟨rfl, hb⟩
  have hb1 : Below W.heap.size W w1 := (((Below.refl _ _).alloc (Nat.le_refl _) _).alloc (by simp) _).trans (hb.mono (by simp; omega))
  have hc : w1.heap[W.heap.size]? = some (.cells #[.int .u8 (kk : Int), .string nx, .string tx, .int .i64 nu, .int .i64 (m : Int)] 78 (0, 0)) := (hb.block _ (by simp; omega)).trans (heap_old (heap_new _ _ _ rfl))
  have hq : w1.heap[W.heap.size + 1]? = some (.cells #[.func (.func ft) #[] #[], .func (.func fn) #[] #[], .bool true] 102 (0, 0)) := (hb.block _ (by simp)).trans (heap_new _ _ _ (by simp))
  clear hb
  have w1c0 : w1.cell? ⟨W.heap.size, 0, none⟩ = some (.int .u8 (kk : Int)) := by rw [Lib.cell_of_heap hc]; rfl
  have w1c1 : w1.cell? ⟨W.heap.size, 1, none⟩ = some (.string nx) := by rw [Lib.cell_of_heap hc]; rfl
  have w1c2 : w1.cell? ⟨W.heap.size, 2, none⟩ = some (.string tx) := by rw [Lib.cell_of_heap hc]; rfl
  have w1c3 : w1.cell? ⟨W.heap.size, 3, none⟩ = some (.int .i64 nu) := by rw [Lib.cell_of_heap hc]; rfl
  have w1c4 : w1.cell? ⟨W.heap.size, 4, none⟩ = some (.int .i64 (m : Int)) := by rw [Lib.cell_of_heap hc]; rfl
  have w1q0 : w1.cell? ⟨W.heap.size + 1, 0, none⟩ = some (.func (.func ft) #[] #[]) := by rw [Lib.cell_of_heap hq]; rfl
  have w1q1 : w1.cell? ⟨W.heap.size + 1, 1, none⟩ = some (.func (.func fn) #[] #[]) := by rw [Lib.cell_of_heap hq]; rfl
  have w1q2 : w1.cell? ⟨W.heap.size + 1, 2, none⟩ = some (.bool true) := by rw [Lib.cell_of_heap hq]; rfl
  have HC := Lib.hid hc
  have HQ := Lib.hid hq
  have HB1 := Lib.hid hb1
  clear hc hq hb1
  go_wp2_with fail
  refine (HN.out _).mono ?_; rintro e w2 ⟨rfl, hb⟩
  clear w1c0 w1c1 w1c2 w1c3 w1c4 w1q0 w1q1 w1q2
  have hb2 : Below W.heap.size W w2 := HB1.out.trans (hb.mono HB1.out.size)
  have hc : w2.heap[W.heap.size]? = some (.cells #[.int .u8 (kk : Int), .string nx, .string tx, .int .i64 nu, .int .i64 (m : Int)] 78 (0, 0)) := (hb.block _ (heap_lt HC.out)).trans HC.out
  have hq : w2.heap[W.heap.size + 1]? = some (.cells #[.func (.func ft) #[] #[], .func (.func fn) #[] #[], .bool true] 102 (0, 0)) := (hb.block _ (heap_lt HQ.out)).trans HQ.out
  clear hb
  have w2c0 : w2.cell? ⟨W.heap.size, 0, none⟩ = some (.int .u8 (kk : Int)) := by rw [Lib.cell_of_heap hc]; rfl
  have w2c1 : w2.cell? ⟨W.heap.size, 1, none⟩ = some (.string nx) := by rw [Lib.cell_of_heap hc]; rfl
  have w2c2 : w2.cell? ⟨W.heap.size, 2, none⟩ = some (.string tx) := by rw [Lib.cell_of_heap hc]; rfl
  have w2c3 : w2.cell? ⟨W.heap.size, 3, none⟩ = some (.int .i64 nu) := by rw [Lib.cell_of_heap hc]; rfl
  have w2c4 : w2.cell? ⟨W.heap.size, 4, none⟩ = some (.int .i64 (m : Int)) := by rw [Lib.cell_of_heap hc]; rfl
  have w2q0 : w2.cell? ⟨W.heap.size + 1, 0, none⟩ = some (.func (.func ft) #[] #[]) := by rw [Lib.cell_of_heap hq]; rfl
  have w2q1 : w2.cell? ⟨W.heap.size + 1, 1, none⟩ = some (.func (.func fn) #[] #[]) := by rw [Lib.cell_of_heap hq]; rfl
  have w2q2 : w2.cell? ⟨W.heap.size + 1, 2, none⟩ = some (.bool true) := by rw [Lib.cell_of_heap hq]; rfl
  have HC2 := Lib.hid hc
  have HQ2 := Lib.hid hq
  have HB2 := Lib.hid hb2
  clear hc hq hb2 HC HQ HB1
  obtain ⟨wm, hrun, hN, hgr⟩ := (NamesM.made w2).update ⟨#[]⟩ (by decide) (by decide)
  have HNM : Hid (NamesM w2.heap.size ([] ++ [[]]) wm) := Lib.hid hN
  have hz2 := HB2.out.size
  have hgw : W.grownBy wm (some g) := ⟨hgr.os.trans HB2.out.os, hgr.tape.trans HB2.out.tape, hgr.output.trans HB2.out.output, Nat.le_trans hz2 (Nat.le_trans (by simp) hgr.size), fun i hi _ => ((hgr.block i (by simp; omega) (fun e => by have := Option.some.inj e; omega)).trans (Below.heap_alloc _ _ _ (by omega))).trans (HB2.out.block i hi)⟩
  have hbm : BH w0 V b off cap bv ba bw be g es wm := HB.out.below ⟨hgw.os, hgw.tape, hgw.output, hgw.size, fun i hi => ((hgr.block i (by simp; omega) (fun e => by have := Option.some.inj e; omega)).trans (Below.heap_alloc _ _ _ (by omega))).trans (HB2.out.block i hi)⟩
  have hcm : wm.heap[W.heap.size]? = some (.cells #[.int .u8 (kk : Int), .string nx, .string tx, .int .i64 nu, .int .i64 (m : Int)] 78 (0, 0)) := ((hgr.block _ (by have := heap_lt HC2.out; simp; omega) (fun e => by have h1 := Option.some.inj e; have h2 := heap_lt HC2.out; omega)).trans (Below.heap_alloc _ _ _ (heap_lt HC2.out))).trans HC2.out
  have HGW := Lib.hid hgw
  have HBM := Lib.hid hbm
  have HCM := Lib.hid hcm
  have m4 : wm.cell? ⟨W.heap.size, 4, none⟩ = some (.int .i64 (m : Int)) := by rw [Lib.cell_of_heap hcm]; rfl
  clear hgw hbm hcm
  go_wp2_with fail
  clear hrun hmm ht hn m4
  have LM : Hid (bv < w2.heap.size ∧ ba < w2.heap.size ∧ bw < w2.heap.size ∧ be < w2.heap.size ∧ g < w2.heap.size) := Lib.hid ⟨Nat.lt_of_lt_of_le (heap_lt HB.out.hv) hz2, Nat.lt_of_lt_of_le (heap_lt HB.out.ha) hz2, Nat.lt_of_lt_of_le (heap_lt HB.out.hw) hz2, Nat.lt_of_lt_of_le (heap_lt HB.out.he) hz2, Nat.lt_of_lt_of_le (heap_lt HB.out.hg) hz2⟩
  have L0 : w0.heap.size ≤ w2.heap.size := Nat.le_trans HB.out.bel.size hz2
  have lW : W.heap.size < w2.heap.size := heap_lt HC2.out
  have lgW : g < W.heap.size := heap_lt HB.out.hg
  clear hN hgr w2c0 w2c1 w2c2 w2c3 w2c4 w2q0 w2q1 w2q2 HQ2 HC2 HB2 HB hz2
  generalize w2.heap.size = bm at *
  go_loopg [12, 79] m (fun gk nv ct wr => ∃ (j : Nat) (esr : Array Value), ct = .int .i64 j ∧ gk + j = m ∧ Hid (BH w0 V b off cap bv ba bw be g esr wr) ∧ Hid (W.grownBy wr (some g)) ∧
    ((∃ (p u : Nat) (nm : List (List UInt8)), nv = .int .i64 (p : Int) ∧ p ≤ V.length ∧ Hid (p = k + 1 + u) ∧ nm.length ≤ j ∧ j ≤ u ∧ Hid (KS V (d - 1) k false o gk nm u) ∧ Hid (NamesM bm (nm ++ [[]]) wr) ∧ Hid (wr.heap[W.heap.size]? = some (.cells #[.int .u8 (kk : Int), .string nx, .string tx, .int .i64 nu, .int .i64 (m : Int)] 78 (0, 0))) ∧
      Hid ((∀ i, i < k + 1 ∨ k + 1 + u ≤ i → esr[i]? = es[i]?) ∧ ∀ i, k + 1 ≤ i → i < k + 1 + u → esr[i]? = some (.int .i64 (endI V i 16)))) ∨ (nv = .int .i64 (-1) ∧ Hid (o = none))))
  case atStart => exact ⟨0, es, rfl, by omega, HBM, HGW, Or.inl ⟨k + 1, 0, [], by go_num, by omega, Lib.hid rfl, Nat.le_refl _, Nat.le_refl _, HK0, HNM, HCM, Lib.hid ⟨fun i _ => rfl, fun i h1 h2 => by omega⟩⟩⟩
  case round =>
    rename World => wr
    obtain ⟨j, esr, rfl, hj, HBr, HGr, hrel2⟩ := hrel
    rcases hrel2 with ⟨p, u, nm, rfl, hp, HPU, hnm, hju, HK, HN, HC, HF⟩ | ⟨rfl, HO⟩
    · by_cases hg0 : gk = 0
      · subst hg0
        have HO := Lib.hid HK.out.done
        have e0 : wr.cell? ⟨be, 0, none⟩ = some (.slice (some ⟨g, 0, none⟩) V.length V.length) := by rw [Lib.cell_of_heap HBr.out.he]; rfl
        have hks : k < esr.size := by rw [HBr.out.size]; exact hk
        have e1 : wr.cell? ⟨g, k, none⟩ = some (esr[k]) := by rw [Lib.cell_of_heap HBr.out.hg]; exact Array.getElem?_eq_getElem hks
        have e2 : wr.frozen? ⟨g, k, none⟩ = false := Lib.frozen_of_heap HBr.out.hg k
        generalize esr[k] = ek at *
        have hval2 : valN d (V.drop k) = some (1 + u) := by rw [HV.out, HO.out]; rfl
        have HPK : Hid (p = k + (1 + u)) := Lib.hid (by rw [HPU.out]; omega)
        have HFIN : Hid (BEnd V k d g es (endI V k d) (.returned (.int .i64 (p : Int))) W (wr.setCell ⟨g, k, none⟩ (.int .i64 (p : Int)))) := Lib.hid (by
          rw [HPK.out]
          exact bend_yes hval2 hd hk HES.out HBr.out.hg (by rw [HBr.out.size, HES.out]) HGr.out (fun i h => HF.out.1 i (by omega)) (fun i h1 h2 => HF.out.2 i h1 (by omega)))
        clear hval2
        go_wp2_with fail
        go_ret
        exact HFIN.out
      · obtain ⟨g1, rfl⟩ : ∃ g1, gk = g1 + 1 := ⟨gk - 1, by omega⟩
        clear hg0
        have r0 : wr.cell? ⟨bv, 0, none⟩ = some (.slice (some ⟨b, off, none⟩) V.length cap) := by rw [Lib.cell_of_heap HBr.out.hv]; rfl
        by_cases hpl : p < V.length
        · obtain ⟨_, r1, _⟩ := (HROW.out.below HBr.out.bel hbl) p hpl
          have r2 : wr.cell? ⟨W.heap.size, 0, none⟩ = some (.int .u8 (kk : Int)) := by rw [Lib.cell_of_heap HC.out]; rfl
          have hxz : (⟨V[p].name.toArray⟩ : ByteArray).size = V[p].name.length := by show V[p].name.toArray.size = _; simp
          have hxl : (⟨V[p].name.toArray⟩ : ByteArray).data.toList = V[p].name := by simp
          have hxs : (⟨V[p].name.toArray⟩ : ByteArray).size ≤ 100000 := by rw [hxz]; exact HSM.out _ (List.getElem_mem _)
          have HBAD := Lib.hid (fun h => HK.out.bad HPU.out hpl h)
          have HFAIL := Lib.hid (fun h h' => HK.out.fail HPU.out hpl h h')
          have HNEXT := Lib.hid (fun n h h' => HK.out.next (n := n) HPU.out hpl h h')
          rw [← hxl] at HBAD HFAIL HNEXT
          clear hxz hxl
          generalize (⟨V[p].name.toArray⟩ : ByteArray) = x at *
          have hu : u ≤ 100000 := by have := HPU.out; omega
          have hlook := HN.out.lookup x (by unfold maxLen; omega)
          rw [amongB_app] at hlook
          obtain ⟨wn, hrun, hN2, hgr⟩ := HN.out.update x (by unfold maxLen; omega) (by simp; omega)
          cases hq : (amongB nm x.data.toList || x.data.toList.isEmpty) with
          | true =>
            rw [hq, if_pos rfl] at hlook
            have HO := Lib.hid (HBAD.out (by
              unfold okN
              rw [if_neg Bool.false_ne_true]
              cases h1 : x.data.toList.isEmpty with
              | true => simp
              | false => rw [h1, Bool.or_false] at hq; simp [hq]))
            clear hq hrun hgr hN2
            have HFIN : Hid (BEnd V k d g es (endI V k d) (.returned (.int .i64 (-1))) W wr) := Lib.hid (bend_none (by rw [HV.out, HO.out]; rfl) HBr.out HES.out HGr.out)
            go_wp2_with fail
            go_ret
            exact HFIN.out
          | false =>
            rw [hq, if_neg Bool.false_ne_true] at hlook
            rw [Bool.or_eq_false_iff] at hq
            have HT := Lib.hid (HTX.out wr x hxs HBr.out.bel)
            by_cases hchk : chkE x.data.toList = 0
            · have hok0 : okN false nm x.data.toList = true := by
                unfold okN
                rw [if_neg Bool.false_ne_true, hq.1, hq.2, chkE_text, hchk]; rfl
              have HOK := Lib.hid hok0
              rw [hchk] at HT
              clear hok0 hq hchk hrun hgr hN2
              go_wp2_with fail
              refine HT.out.mono ?_; rintro e w6 ⟨rfl, hb6⟩
              clear hlook
              have HBs := Lib.hid (HBr.out.below hb6)
              have HGs := Lib.hid (grown_trans HGr.out (grown_below hb6 _))
              have HCs : Hid (w6.heap[W.heap.size]? = some (.cells #[.int .u8 (kk : Int), .string nx, .string tx, .int .i64 nu, .int .i64 (m : Int)] 78 (0, 0))) := Lib.hid ((hb6.block _ (heap_lt HC.out)).trans HC.out)
              have HNs := Lib.hid (HN.out.below hb6)
              obtain ⟨wn, hrun, hN2, hgr⟩ := HNs.out.update x (by unfold maxLen; omega) (by simp; omega)
              clear hb6
              have hok : okN false nm x.data.toList = true := HOK.out
              have HB5 : Hid (BH w0 V b off cap bv ba bw be g esr wn) := Lib.hid (HBs.out.other hgr L0 LM.out)
              have q0 : wn.cell? ⟨bw, 0, none⟩ = some (.func (.func 82) #[] #[.pointer (some ⟨bv, 0, none⟩), .pointer (some ⟨ba, 0, none⟩), .pointer (some ⟨bw, 0, none⟩), .pointer (some ⟨be, 0, none⟩)]) := by rw [Lib.cell_of_heap HB5.out.hw]; rfl
              have HGn : Hid (W.grownBy wn (some g)) := Lib.hid (grown_new HGs.out hgr (by omega))
              have HCn : Hid (wn.heap[W.heap.size]? = some (.cells #[.int .u8 (kk : Int), .string nx, .string tx, .int .i64 nu, .int .i64 (m : Int)] 78 (0, 0))) := Lib.hid ((hgr.block _ (heap_lt HCs.out) (fun e => by have := Option.some.inj e; omega)).trans HCs.out)
              have HNn := Lib.hid hN2
              clear hgr hN2
              cases hv : valN (d - 1) (V.drop p) with
              | none =>
                have HO := Lib.hid (HFAIL.out hok hv)
                have HI : Hid (Calls Tryz.prog 82 #[.int .i64 (p : Int), .int .i64 ((d : Int) - 1), .pointer (some ⟨bv, 0, none⟩), .pointer (some ⟨ba, 0, none⟩), .pointer (some ⟨bw, 0, none⟩), .pointer (some ⟨be, 0, none⟩)] wn fun e w' => BEnd V p (d - 1) g esr (-1) e wn w') := Lib.hid (by
                  have := HIH.out wn esr p hpl HB5.out
                  rw [endI_none hv] at this
                  exact this)
                clear hv hok
                go_wp2_with fail
                refine HI.out.mono ?_; rintro e w5 hbe
                obtain ⟨rfl, hg5, es5, hh5, hs5, hf5⟩ := hbe
                have HB6 := Lib.hid (HB5.out.grown hg5 hh5 hs5)
                have HG6 := Lib.hid (grown_trans HGn.out hg5)
                clear hg5 hh5 hs5 hf5
                go_wp2_with fail
                go_roundg g1
                case measure => omega
                case rel => exact ⟨j + 1, es5, by go_num, by omega, HB6, HG6, Or.inr ⟨rfl, HO⟩⟩
              | some n =>
                have HO := Lib.hid (HNEXT.out n hok hv)
                have HI : Hid (Calls Tryz.prog 82 #[.int .i64 (p : Int), .int .i64 ((d : Int) - 1), .pointer (some ⟨bv, 0, none⟩), .pointer (some ⟨ba, 0, none⟩), .pointer (some ⟨bw, 0, none⟩), .pointer (some ⟨be, 0, none⟩)] wn fun e w' => BEnd V p (d - 1) g esr ((p + n : Nat) : Int) e wn w') := Lib.hid (by
                  have := HIH.out wn esr p hpl HB5.out
                  rw [endI_some hv] at this
                  exact this)
                have hn1 := (valN_le _ _ _ hv).1
                have hn2 := (valN_le _ _ _ hv).2
                rw [List.length_drop] at hn2
                have HV2 := Lib.hid hv
                obtain ⟨p2, hp2⟩ : ∃ p2, p + n = p2 := ⟨_, rfl⟩
                have HP2 : Hid (p2 = k + 1 + (u + n)) := Lib.hid (by rw [← hp2, HPU.out]; omega)
                have hp3 : p2 ≤ V.length := by omega
                rw [hp2] at HI
                clear hv hok hp2 hn2
                go_wp2_with fail
                refine HI.out.mono ?_; rintro e w5 hbe
                obtain ⟨rfl, hg5, es5, hh5, hs5, hf5⟩ := hbe
                have HB6 := Lib.hid (HB5.out.grown hg5 hh5 hs5)
                have HG6 := Lib.hid (grown_trans HGn.out hg5)
                have HF6 := Lib.hid (fill_next HPU.out HF.out (hf5 n HV2.out))
                have HN6 : Hid (NamesM bm ((x.data.toList :: nm) ++ [[]]) w5) := Lib.hid (HNn.out.grown hg5 (fun e => by have h1 := Option.some.inj e; have h2 := LM.out.2.2.2.2; omega))
                have HC6 := Lib.hid ((hg5.block _ (heap_lt HCn.out) (fun e => by have h1 := Option.some.inj e; omega)).trans HCn.out)
                clear hg5 hh5 hs5 hf5
                go_wp2_with fail
                go_roundg g1
                case measure => omega
                case rel => exact ⟨j + 1, es5, by go_num, by omega, HB6, HG6, Or.inl ⟨p2, u + n, x.data.toList :: nm, rfl, hp3, HP2, by simp; omega, by omega, HO, HN6, HC6, HF6⟩⟩
            · have hne0 : (chkE x.data.toList != 0) = true := by rw [bne_iff_ne]; exact hchk
              have HO := Lib.hid (HBAD.out (by
                unfold okN
                have : textB x.data.toList = false := by rw [chkE_text]; exact beq_eq_false_iff_ne.2 hchk
                rw [if_neg Bool.false_ne_true, this]; simp))
              have HFIN : Hid (∀ w6 : World, Below wr.heap.size wr w6 → BEnd V k d g es (endI V k d) (.returned (.int .i64 (-1))) W w6) := Lib.hid (fun w6 h6 => bend_none (by rw [HV.out, HO.out]; rfl) (HBr.out.below h6) HES.out (grown_trans HGr.out (grown_below h6 _)))
              clear hq hchk hrun hgr hN2
              generalize chkE x.data.toList = ce at *
              go_wp2_with fail
              refine HT.out.mono ?_; rintro e w6 ⟨rfl, hb6⟩
              have HFIN2 := Lib.hid (HFIN.out _ hb6)
              clear hlook hb6
              go_wp2_with fail
              go_ret
              exact HFIN2.out
        · have HO := Lib.hid (HK.out.out_ (by have := HPU.out; omega))
          have HFIN : Hid (BEnd V k d g es (endI V k d) (.returned (.int .i64 (-1))) W wr) := Lib.hid (bend_none (by rw [HV.out, HO.out]; rfl) HBr.out HES.out HGr.out)
          go_wp2_with fail
          go_ret
          exact HFIN.out
    · have HFIN : Hid (BEnd V k d g es (endI V k d) (.returned (.int .i64 (-1))) W wr) := Lib.hid (bend_none (by rw [HV.out, HO.out]; rfl) HBr.out HES.out HGr.out)
      by_cases hg0 : gk = 0
      · subst hg0
        go_wp2_with fail
        go_ret
        exact HFIN.out
      · have hlt : j < m := by omega
        go_wp2_with fail
        go_ret
        exact HFIN.out
end Go.Proofs.YtgacpmdebjndkaaGreatDoor
namespace Go.Proofs.YtgacpmdebjndkaaGreatDoor
open Go.RowKit
theorem valN_drop (V : List Cel) (k d : Nat) (hk : k < V.length) : valN d (V.drop k) = if oneC V[k] then (if nestC V[k] then (match d with | 0 => none | d' + 1 => (kidsN (valN d') (V[k].kind == 6) V[k].many.toNat [] (V.drop (k + 1))).map (1 + ·)) else some 1) else none := by
  rw [List.drop_eq_getElem_cons hk]
  cases d with
  | zero =>
    rw [valN_zero, headN_cons]
    cases oneC V[k] <;> cases nestC V[k] <;> rfl
  | succ d => rw [valN_more, headN_cons]
theorem behind_case (w0 : World) (V : List Cel) (b off cap bv ba bw be g : Nat) (hrow : CelRow b off V w0) (hbl : b < w0.heap.size) (hs : SmallV V) (hE : EnvU w0)
    (HSM : Hid (∀ c ∈ V, c.name.length ≤ 100000)) (HTX : Hid (∀ (W' : World) (x : ByteArray), x.size ≤ 100000 → Below w0.heap.size w0 W' → Calls Tryz.prog 83 #[.string x] W' fun e w' => e = .returned (.int .i64 (chkE x.data.toList)) ∧ Below W'.heap.size W' w'))
    (d : Nat) (hd : d ≤ 16) (W : World) (es : Array Value) (k : Nat) (hk : k < V.length) (hB : BH w0 V b off cap bv ba bw be g es W)
    (HIH : 0 < d → Hid (∀ (W' : World) (es' : Array Value) (p : Nat), p < V.length → BH w0 V b off cap bv ba bw be g es' W' → Calls Tryz.prog 82 #[.int .i64 (p : Int), .int .i64 ((d : Int) - 1), .pointer (some ⟨bv, 0, none⟩), .pointer (some ⟨ba, 0, none⟩), .pointer (some ⟨bw, 0, none⟩), .pointer (some ⟨be, 0, none⟩)] W' fun e w' => BEnd V p (d - 1) g es' (endI V p (d - 1)) e W' w')) :
    Calls Tryz.prog 82 #[.int .i64 (k : Int), .int .i64 (d : Int), .pointer (some ⟨bv, 0, none⟩), .pointer (some ⟨ba, 0, none⟩), .pointer (some ⟨bw, 0, none⟩), .pointer (some ⟨be, 0, none⟩)] W fun e w' => BEnd V k d g es (endI V k d) e W w' := by
  obtain ⟨c0, c1, c2, c3, c4⟩ := (hrow.below hB.bel hbl) k hk
  obtain ⟨s1, s2, s3, s4⟩ := hs.2 V[k] (List.getElem_mem _)
  have htz : (⟨V[k].text.toArray⟩ : ByteArray).size = V[k].text.length := by show V[k].text.toArray.size = _; simp
  have hkl := UInt8.toNat_lt V[k].kind
  have hone := one_kind V[k]
  have hnest := nest_kind V[k]
  have hval := valN_drop V k d hk
  have no : ∀ {e : Ending} {w' : World}, valN d (V.drop k) = none → e = .returned (.int .i64 (-1)) ∧ Below W.heap.size W w' → BEnd V k d g es (endI V k d) e W w' := by
    rintro e w' hn ⟨rfl, hb⟩
    exact bend_no hn hB.hg hb
  by_cases h7 : 7 < V[k].kind.toNat
  · have hn : valN d (V.drop k) = none := by rw [hval, hone, decide_eq_false (by omega)]; rfl
    exact (bw_big w0 V b off cap bv ba bw be g es W k d hB _ _ _ _ _ hk hs.1 hd c0 c1 c2 c3 c4 h7 (by omega)).mono fun e w' h => no hn h
  rw [decide_eq_true (by omega), Bool.true_and] at hone
  have HT : Hid (∀ w : World, Below W.heap.size W w → Calls Tryz.prog (tfun V[k].kind.toNat) #[.string ⟨V[k].text.toArray⟩] w fun e w' => e = .returned (.bool (ctext V[k].kind.toNat V[k].text)) ∧ Below w.heap.size w w') := Lib.hid fun w hw => by
    have := tfun_any V[k].kind.toNat ⟨V[k].text.toArray⟩ (by omega) w (hE.below (hB.bel.trans (hw.mono hB.bel.size)))
    simpa using this
  have HN : Hid (∀ w : World, Calls Tryz.prog (nfun V[k].kind.toNat) #[.int .i64 V[k].num] w fun e w' => e = .returned (.bool (cnum V[k].kind.toNat V[k].num)) ∧ Below w.heap.size w w') := Lib.hid fun w => nfun_any _ _ w
  cases ht : ctext V[k].kind.toNat V[k].text with
  | false =>
    rw [ht] at HT hone
    have hn : valN d (V.drop k) = none := by rw [hval, hone]; rfl
    exact (bw_text w0 V b off cap bv ba bw be g es W k d hB _ _ _ _ _ hk hs.1 hd c0 c1 c2 c3 c4 (by omega) HT).mono fun e w' h => no hn h
  | true =>
    rw [ht, Bool.true_and] at hone
    rw [ht] at HT
    cases hnu : cnum V[k].kind.toNat V[k].num with
    | false =>
      rw [hnu] at HN hone
      have hn : valN d (V.drop k) = none := by rw [hval, hone]; rfl
      exact (bw_num w0 V b off cap bv ba bw be g es W k d hB _ _ _ _ _ hk hs.1 hd c0 c1 c2 c3 c4 (by omega) HT HN).mono fun e w' h => no hn h
    | true =>
      rw [hnu, Bool.true_and] at hone
      rw [hnu] at HN
      by_cases hm : V[k].many < 0
      · have hn : valN d (V.drop k) = none := by
          rw [hval, hone]
          cases cnest V[k].kind.toNat with
          | true => rw [if_pos rfl, decide_eq_false (by omega)]; rfl
          | false => rw [if_neg Bool.false_ne_true, beq_eq_false_iff_ne.2 (by omega)]; rfl
        exact (bw_neg w0 V b off cap bv ba bw be g es W k d hB _ _ _ _ _ hk hs.1 hd c0 c1 c2 c3 c4 (by omega) HT HN hm).mono fun e w' h => no hn h
      · cases hcn : cnest V[k].kind.toNat with
        | false =>
          rw [hcn, if_neg Bool.false_ne_true] at hone
          by_cases hm0 : V[k].many = 0
          · rw [hm0] at c4 hone
            have hv1 : valN d (V.drop k) = some 1 := by rw [hval, hone, hnest, hcn]; rfl
            exact bw_zero_leaf w0 V b off cap bv ba bw be g es W k d hB _ _ _ _ hk hs.1 hd c0 c1 c2 c3 c4 (by omega) HT HN hcn hv1
          · have hn : valN d (V.drop k) = none := by rw [hval, hone, beq_eq_false_iff_ne.2 hm0]; rfl
            exact (bw_leaf w0 V b off cap bv ba bw be g es W k d hB _ _ _ _ _ hk hs.1 hd c0 c1 c2 c3 c4 (by omega) HT HN (by omega) hcn (by omega)).mono fun e w' h => no hn h
        | true =>
          rw [hcn, if_pos rfl, decide_eq_true (by omega)] at hone
          by_cases hd0 : d = 0
          · have hn : valN d (V.drop k) = none := by rw [hval, hone, hnest, hcn]; subst hd0; rfl
            exact (bw_deep w0 V b off cap bv ba bw be g es W k d hB _ _ _ _ _ hk hs.1 hd c0 c1 c2 c3 c4 (by omega) HT HN (by omega) hcn hd0).mono fun e w' h => no hn h
          · obtain ⟨d', rfl⟩ : ∃ d', d = d' + 1 := ⟨d - 1, by omega⟩
            rw [hone, hnest, hcn, if_pos rfl, if_pos rfl] at hval
            dsimp only at hval
            obtain ⟨m, hm2⟩ := Int.eq_ofNat_of_zero_le (show 0 ≤ V[k].many by omega)
            rw [hm2] at c4
            have hmt : V[k].many.toNat = m := by rw [hm2]; rfl
            rw [hmt] at hval
            by_cases hm0 : m = 0
            · subst hm0
              have hv1 : valN (d' + 1) (V.drop k) = some 1 := by rw [hval]; cases V.drop (k + 1) <;> rfl
              exact bw_zero_nest w0 V b off cap bv ba bw be g es W k (d' + 1) hB _ _ _ _ hk hs.1 hd c0 c1 c2 c3 c4 (by omega) HT HN hcn (by omega) hv1
            · have hmx : (m : Int) ≤ 9223372036854775807 := by rw [← hm2]; exact s4.2
              have h67 : V[k].kind.toNat = 6 ∨ V[k].kind.toNat = 7 := by
                unfold cnest at hcn
                rw [Bool.or_eq_true, beq_iff_eq, beq_iff_eq] at hcn
                exact hcn
              rcases h67 with h6 | h6
              · have hk6 : (V[k].kind == 6) = true := beq_iff_eq.2 (UInt8.toNat_inj.1 h6)
                rw [hk6] at hval
                exact bw_list w0 V b off cap bv ba bw be g es W k (d' + 1) hB _ _ _ _ m hk hs.1 hd c0 c1 c2 c3 c4 (by omega) HT HN h6 hcn (by omega) (by omega) hmx (Lib.hid hrow) hbl HSM _ rfl hval HTX (HIH (by omega))
              · have hk6 : (V[k].kind == 6) = false := beq_eq_false_iff_ne.2 fun e => by rw [e] at h6; exact absurd h6 (by decide)
                rw [hk6] at hval
                exact bw_obj w0 V b off cap bv ba bw be g es W k (d' + 1) hB _ _ _ _ m hk hs.1 hd c0 c1 c2 c3 c4 (by omega) HT HN h6 hcn (by omega) (by omega) hmx (Lib.hid hrow) hbl HSM _ rfl hval HTX (HIH (by omega))
theorem behind_walk (w0 : World) (V : List Cel) (b off cap bv ba bw be g : Nat) (hrow : CelRow b off V w0) (hbl : b < w0.heap.size) (hs : SmallV V) (hE : EnvU w0) :
    ∀ d : Nat, d ≤ 16 → ∀ (W : World) (es : Array Value) (k : Nat), k < V.length → BH w0 V b off cap bv ba bw be g es W →
      Calls Tryz.prog 82 #[.int .i64 (k : Int), .int .i64 (d : Int), .pointer (some ⟨bv, 0, none⟩), .pointer (some ⟨ba, 0, none⟩), .pointer (some ⟨bw, 0, none⟩), .pointer (some ⟨be, 0, none⟩)] W fun e w' => BEnd V k d g es (endI V k d) e W w' := by
  have HSM : Hid (∀ c ∈ V, c.name.length ≤ 100000) := Lib.hid fun c hc => (hs.2 c hc).1
  have HTX : Hid (∀ (W' : World) (x : ByteArray), x.size ≤ 100000 → Below w0.heap.size w0 W' → Calls Tryz.prog 83 #[.string x] W' fun e w' => e = .returned (.int .i64 (chkE x.data.toList)) ∧ Below W'.heap.size W' w') := Lib.hid fun W' x hx hb => tcheck_any x (by omega) W' (hE.below hb)
  intro d
  induction d with
  | zero => 
    intro hd W es k hk hB
    exact behind_case w0 V b off cap bv ba bw be g hrow hbl hs hE HSM HTX 0 hd W es k hk hB (fun h => absurd h (by decide))
  | succ d ih =>
    intro hd W es k hk hB
    refine behind_case w0 V b off cap bv ba bw be g hrow hbl hs hE HSM HTX (d + 1) hd W es k hk hB (fun _ => Lib.hid fun W' es' p hp hB' => ?_)
    have := ih (by omega) W' es' p hp hB'
    rw [show ((d + 1 : Nat) : Int) - 1 = (d : Int) from by omega, show d + 1 - 1 = d from rfl]
    exact this
end Go.Proofs.YtgacpmdebjndkaaGreatDoor
namespace Go.Proofs.YtgacpmdebjndkaaGreatDoor
open Go.RowKit
theorem row_laid (w1 : World) (old cs : Array Value) (T : TypeId) : ∃ w2, (w1.alloc (.cells old T)).setRow w1.heap.size cs = w2 ∧ w2.heap[w1.heap.size]? = some (.cells cs T (0, 0)) ∧ Below w1.heap.size w1 w2 ∧ w2.heap.size = w1.heap.size + 1 :=
  ⟨_, rfl, setRow_heap _ _ _ cs _ _ (heap_alloc_new w1 _), below_setRow ((Below.refl _ _).alloc (Nat.le_refl _) _) (Nat.le_refl _) _, by simp⟩
theorem made_row {W : World} {n g : Nat} {xs : List Value} {B : Nat} (h : W.ownsRow B 3 1 (.slice (some ⟨g, 0, none⟩) n n) n xs) (hn : 0 < n) : ∃ cur : Array Value, W.heap[g]? = some (.cells cur 3 (0, 0)) ∧ cur.size = n := by
  obtain ⟨h1, h2⟩ := h
  rcases h2 with ⟨h2, h3⟩ | ⟨g', cap, cur, hv, hB, hg, hn', hc, hcs, ht⟩
  · cases h2
  · injection hv with e1 e2 e3
    injection e1 with e1
    injection e1 with e1
    subst e1 e3
    exact ⟨cur, hg, by omega⟩
/-- What the outermost call of behind's inner function leaves. -/
def BTop (V : List Cel) (w0 : World) (b off cap bv ba bw be g : Nat) (W W' : World) : Prop :=
  W.grownBy W' (some g) ∧ ∃ es : Array Value, BH w0 V b off cap bv ba bw be g es W' ∧ (valN 16 V = some V.length → ∀ i, i < V.length → es[i]? = some (.int .i64 (endI V i 16)))
theorem keepT {w0 W W' : World} {V : List Cel} {b off cap bv ba bw be g : Nat} {f s : Value} (h : BTop V w0 b off cap bv ba bw be g W W') (nw : bw ≠ g) (nv : bv ≠ g) (hS : W.cell? ⟨bw, 0, none⟩ = some f ∧ W.cell? ⟨bv, 0, none⟩ = some s ∧ Hid (∃ es, BH w0 V b off cap bv ba bw be g es W)) :
    W'.cell? ⟨bw, 0, none⟩ = some f ∧ W'.cell? ⟨bv, 0, none⟩ = some s ∧ Hid (∃ es, BH w0 V b off cap bv ba bw be g es W') := by
  obtain ⟨h1, h2, h3⟩ := hS
  obtain ⟨g1, es, g2, _⟩ := h
  exact ⟨g1.cell (a := ⟨bw, 0, none⟩) h1 (fun e => nw (Option.some.inj e)), g1.cell (a := ⟨bv, 0, none⟩) h2 (fun e => nv (Option.some.inj e)), Lib.hid ⟨es, g2⟩⟩
def BIn (V : List Cel) (r : Int) (B : Nat) (e : Ending) (w' : World) : Prop := if r = (V.length : Int) then ∃ (g : Nat) (es : Array Value), e = .returned (.slice (some ⟨g, 0, none⟩) V.length V.length) ∧ B ≤ g ∧ w'.heap[g]? = some (.cells es 3 (0, 0)) ∧ es.size = V.length ∧ ∀ i, i < V.length → es[i]? = some (.int .i64 (endI V i 16)) else e = .returned (.slice none 0 0)
/-- What behind hands back. -/
def BRet (V : List Cel) (B : Nat) (e : Ending) (w' : World) : Prop :=
  (mayB V = false ∧ e = .returned (.slice none 0 0)) ∨ (mayB V = true ∧ ∃ (g : Nat) (es : Array Value), e = .returned (.slice (some ⟨g, 0, none⟩) V.length V.length) ∧ B ≤ g ∧ w'.heap[g]? = some (.cells es 3 (0, 0)) ∧ es.size = V.length ∧ ∀ i, i < V.length → es[i]? = some (.int .i64 (endI V i 16)))
set_option maxRecDepth 100000 in
theorem behind_none (a : Option Addr) (cap : Nat) (w : World) :
    Calls Tryz.prog 77 #[.slice a 0 cap] w fun e w' => BRet [] w.heap.size e w' ∧ Below w.heap.size w w' := by
  go_enter Tryz.func77, Tryz.ntmps77
  go_wp2_with fail
  go_ret
  exact ⟨Or.inl ⟨rfl, rfl⟩, (Below.refl _ _).alloc (Nat.le_refl _) _⟩
set_option maxRecDepth 100000 in
theorem behind_long (n b off cap : Nat) (hn : 2048 < n) (hl : n ≤ 100000) (w : World) :
    Calls Tryz.prog 77 #[.slice (some ⟨b, off, none⟩) n cap] w fun e w' => e = .returned (.slice none 0 0) ∧ Below w.heap.size w w' := by
  have h0 : ((n : Int) == 0) = false := by rw [beq_eq_false_iff_ne]; omega
  go_enter Tryz.func77, Tryz.ntmps77
  go_wp2_with fail
  go_ret
  exact ⟨rfl, (Below.refl _ _).alloc (Nat.le_refl _) _⟩
set_option maxRecDepth 100000 in
theorem behind_named (n b off cap : Nat) (hn0 : 0 < n) (hn : n ≤ 2048) (x : ByteArray) (h1 : ¬ x.toList = []) (h2 : x.toList.isEmpty = false) (w : World) (c1 : w.cell? ⟨b, off + 1, none⟩ = some (.string x)) :
    Calls Tryz.prog 77 #[.slice (some ⟨b, off, none⟩) n cap] w fun e w' => e = .returned (.slice none 0 0) ∧ Below w.heap.size w w' := by
  have h0 : ((n : Int) == 0) = false := by rw [beq_eq_false_iff_ne]; omega
  have hlt := lt_of_cell c1
  go_enter Tryz.func77, Tryz.ntmps77
  go_wp2_with fail
  go_ret
  exact ⟨rfl, (Below.refl _ _).alloc (Nat.le_refl _) _⟩
set_option maxRecDepth 100000 in
theorem behind_in (V : List Cel) (b off cap : Nat) (hn0 : 0 < V.length) (hn : V.length ≤ 2048) (x : ByteArray) (h1 : x.toList = []) (h2 : x.toList.isEmpty = true) (w : World) (c1 : w.cell? ⟨b, off + 1, none⟩ = some (.string x))
    (hrow : CelRow b off V w) (hs : SmallV V) (hE : EnvU w) (r : Int) (hr : endI V 0 16 = r) :
    Calls Tryz.prog 77 #[.slice (some ⟨b, off, none⟩) V.length cap] w fun e w' => BIn V r w.heap.size e w' ∧ Below w.heap.size w w' := by
  have h0 : ((V.length : Int) == 0) = false := by rw [beq_eq_false_iff_ne]; omega
  have hlt := lt_of_cell c1
  have HROW := Lib.hid hrow
  have HS := Lib.hid hs
  have HE := Lib.hid hE
  have HR := Lib.hid hr
  have HK := Lib.hid (fun w => kinds_any w)
  have hnew : Hid (∀ (w : World) O, (w.alloc O).heap[w.heap.size]? = some O) := Lib.hid heap_alloc_new
  obtain ⟨i0, hi, hz0, hz1, hz2⟩ := info_parts int_info
  have HI := Lib.hid hi
  have HZ0 := Lib.hid hz0
  have HZ1 := Lib.hid hz1
  have HZ2 := Lib.hid hz2
  clear hrow hs hE hr hi hz0 hz1 hz2
  go_enter Tryz.func77, Tryz.ntmps77
  go_wp2_with fail
  refine (HK.out _).mono ?_; rintro e w1 ⟨rfl, hb⟩
  have hv1 : w1.heap[w.heap.size]? = some (.cells #[.slice (some ⟨b, off, none⟩) V.length cap] 69 (0, 0)) := (hb.block _ (by simp)).trans (hnew.out w _)
  have hb1 : Below w.heap.size w w1 := ((Below.refl _ _).alloc (Nat.le_refl _) _).trans (hb.mono (by simp))
  have HV1 := Lib.hid hv1
  have HB1 := Lib.hid hb1
  have hz1 : w.heap.size + 1 ≤ w1.heap.size := by have := hb.size; simpa using this
  clear hb hv1 hb1
  have hmf : ∀ (fn : Fn) (first cp : Array Value) (w : World), (Instr.makeFunc fn first cp).run Tryz.prog w = .ok (.func fn first cp) w := fun _ _ _ _ => rfl
  go_wp2_with (first
    | (refine wpList_store_row rfl 103 _ _ rfl w1.heap.size kindsA rfl rfl 103 #[.nilFunc, .nilFunc, .bool false, .nilFunc, .nilFunc, .bool false, .nilFunc, .nilFunc, .bool false, .nilFunc, .nilFunc, .bool false, .nilFunc, .nilFunc, .bool false, .nilFunc, .nilFunc, .bool false, .nilFunc, .nilFunc, .bool false, .nilFunc, .nilFunc, .bool false] (hnew.out _ _) (by kernel_rfl) rfl kindsA_one ?_; obtain ⟨w2, hw2, hA2, hB2, hZ2⟩ := row_laid w1 #[.nilFunc, .nilFunc, .bool false, .nilFunc, .nilFunc, .bool false, .nilFunc, .nilFunc, .bool false, .nilFunc, .nilFunc, .bool false, .nilFunc, .nilFunc, .bool false, .nilFunc, .nilFunc, .bool false, .nilFunc, .nilFunc, .bool false, .nilFunc, .nilFunc, .bool false] kindsA 103; rw [hw2]; clear hw2; have HA2 := Lib.hid hA2; have HB2 := Lib.hid hB2; have HZ2' := Lib.hid hZ2; have HV2 := Lib.hid ((hB2.block _ (heap_lt HV1.out)).trans HV1.out); have v2 : w2.cell? ⟨w.heap.size, 0, none⟩ = some (.slice (some ⟨b, off, none⟩) V.length cap) := (by rw [Lib.cell_of_heap HV2.out]; rfl); clear hA2 hB2 hZ2)
    | (at_make; refine wpList_make_full _ rfl _ _ 97 rfl w.heap.size 3 i0 (.int .i64 0) 1 Tryz.underlying97 HI.out HZ0.out HZ1.out .i64 .i64 _ _ V.length rfl rfl rfl rfl (by rw [HZ2.out]; omega) (by unfold maxLen; omega) (by rw [HZ2'.out]; omega) ?_; intro w3 hown3 hgrow3; have HO3 := Lib.hid hown3; have HG3 := Lib.hid hgrow3; clear hown3 hgrow3 v2))
  obtain ⟨cur, hcur, hcs⟩ := made_row HO3.out hn0
  have hz2 := HZ2'.out
  have hz3 : w2.heap.size + 1 ≤ w3.heap.size := heap_lt hcur
  have b1 := HB1.out
  have b2 : Below w.heap.size w w2 := HB1.out.trans (HB2.out.mono (by omega))
  have b3 : Below w.heap.size w w3 := b2.grown HG3.out b2.size (by intro k hk; cases hk)
  obtain ⟨w4, hw4⟩ : ∃ w4, ((w3.alloc (.cells #[.slice (some ⟨w2.heap.size, 0, none⟩) V.length V.length] 97)).alloc (.cells #[.func (.func 82) #[] #[.pointer (some ⟨w.heap.size, 0, none⟩), .pointer (some ⟨w1.heap.size, 0, none⟩), .pointer (some ⟨w3.heap.size + 1, 0, none⟩), .pointer (some ⟨w3.heap.size, 0, none⟩)]] 105)) = w4 := ⟨_, rfl⟩
  have b4 : Below w3.heap.size w3 w4 := by rw [← hw4]; exact ((Below.refl _ _).alloc (Nat.le_refl _) _).alloc (by simp) _
  have g3 : ∀ (i : Nat) (O : Obj), w2.heap[i]? = some O → w4.heap[i]? = some O := fun i O h => by
    have h' : w3.heap[i]? = some O := (HG3.out.block i (heap_lt h) (by intro e; cases e)).trans h
    exact (b4.block i (heap_lt h')).trans h'
  have HBH : Hid (∃ es, BH w V b off cap w.heap.size w1.heap.size (w3.heap.size + 1) w3.heap.size w2.heap.size es w4) := Lib.hid ⟨cur, {
    hv := g3 _ _ HV2.out
    ha := g3 _ _ HA2.out
    hw := by rw [← hw4]; exact heap_new _ _ _ (by simp)
    he := by rw [← hw4]; exact heap_old (heap_new _ _ _ rfl)
    hg := (b4.block _ (heap_lt hcur)).trans hcur
    size := hcs
    bel := b3.trans (b4.mono b3.size)
    lv := Nat.le_refl _
    la := by omega
    lw := by omega
    le := by omega
    lg := by omega
    nv := by omega
    na := by omega
    nw := by omega
    ne := by omega }⟩
  have q0 : w4.cell? ⟨w3.heap.size + 1, 0, none⟩ = some (.func (.func 82) #[] #[.pointer (some ⟨w.heap.size, 0, none⟩), .pointer (some ⟨w1.heap.size, 0, none⟩), .pointer (some ⟨w3.heap.size + 1, 0, none⟩), .pointer (some ⟨w3.heap.size, 0, none⟩)]) := by obtain ⟨es, h⟩ := HBH.out; rw [Lib.cell_of_heap h.hw]; rfl
  have q1 : w4.cell? ⟨w.heap.size, 0, none⟩ = some (.slice (some ⟨b, off, none⟩) V.length cap) := by obtain ⟨es, h⟩ := HBH.out; rw [Lib.cell_of_heap h.hv]; rfl
  have q0' : w4.drew.cell? ⟨w3.heap.size + 1, 0, none⟩ = _ := q0
  have q1' : w4.drew.cell? ⟨w.heap.size, 0, none⟩ = _ := q1
  have HBHd : Hid (∃ es, BH w V b off cap w.heap.size w1.heap.size (w3.heap.size + 1) w3.heap.size w2.heap.size es w4.drew) := Lib.hid (by obtain ⟨es, h⟩ := HBH.out; exact ⟨es, h.below ⟨rfl, rfl, rfl, Nat.le_refl _, fun _ _ => rfl⟩⟩)
  have HS0 := Lib.hid (And.intro q0' (And.intro q1' HBHd))
  have HCALL : Hid (∀ W : World, (W.cell? ⟨w3.heap.size + 1, 0, none⟩ = some (.func (.func 82) #[] #[.pointer (some ⟨w.heap.size, 0, none⟩), .pointer (some ⟨w1.heap.size, 0, none⟩), .pointer (some ⟨w3.heap.size + 1, 0, none⟩), .pointer (some ⟨w3.heap.size, 0, none⟩)]) ∧ W.cell? ⟨w.heap.size, 0, none⟩ = some (.slice (some ⟨b, off, none⟩) V.length cap) ∧ Hid (∃ es, BH w V b off cap w.heap.size w1.heap.size (w3.heap.size + 1) w3.heap.size w2.heap.size es W)) →
      Calls Tryz.prog 82 #[.int .i64 0, .int .i64 16, .pointer (some ⟨w.heap.size, 0, none⟩), .pointer (some ⟨w1.heap.size, 0, none⟩), .pointer (some ⟨w3.heap.size + 1, 0, none⟩), .pointer (some ⟨w3.heap.size, 0, none⟩)] W fun e w' => e = .returned (.int .i64 r) ∧ BTop V w b off cap w.heap.size w1.heap.size (w3.heap.size + 1) w3.heap.size w2.heap.size W w') := Lib.hid (by
    intro W hW
    obtain ⟨es, hB⟩ := hW.2.2.out
    have := behind_walk w V b off cap _ _ _ _ _ HROW.out hlt HS.out HE.out 16 (by omega) W es 0 hn0 hB
    refine this.mono ?_
    rintro e w' ⟨h1, h2, es', h3, h4, h5⟩
    rw [HR.out] at h1
    refine ⟨h1, h2, es', hB.grown h2 h3 h4, fun hv i hi => ?_⟩
    exact (h5 _ (by rw [List.drop_zero]; exact hv)).2 i (Nat.zero_le _) (by omega))
  clear q0 q1 q0' q1' HBHd hcur hcs b1 b2 b3 b4 g3 hmf
  rw [hw4]
  clear hw4
  go_region_held3 (fun W => W.cell? ⟨w3.heap.size + 1, 0, none⟩ = some (.func (.func 82) #[] #[.pointer (some ⟨w.heap.size, 0, none⟩), .pointer (some ⟨w1.heap.size, 0, none⟩), .pointer (some ⟨w3.heap.size + 1, 0, none⟩), .pointer (some ⟨w3.heap.size, 0, none⟩)]) ∧ W.cell? ⟨w.heap.size, 0, none⟩ = some (.slice (some ⟨b, off, none⟩) V.length cap) ∧ Hid (∃ es, BH w V b off cap w.heap.size w1.heap.size (w3.heap.size + 1) w3.heap.size w2.heap.size es W))
    (first | assumption | exact HS0.out | exact keepT (by assumption) (by omega) (by omega) (by assumption))
    (first | ((with_reducible refine (HCALL.out _ (by assumption)).mono ?_); rintro e w5 ⟨rfl, hb⟩))
  clear hz2 hz3
  obtain ⟨hg5, es, hB5, hfill⟩ := hb
  have e0 : w5.cell? ⟨w3.heap.size, 0, none⟩ = some (.slice (some ⟨w2.heap.size, 0, none⟩) V.length V.length) := by rw [Lib.cell_of_heap hB5.he]; rfl
  have HF := Lib.hid hfill
  have HB5 := Lib.hid hB5
  have HZ := HZ2'.out
  clear hfill hB5 hg5
  by_cases hrv : r = (V.length : Int)
  · have hne : (r != (V.length : Int)) = false := by rw [bne_eq_false_iff_eq]; exact hrv
    have hval : valN 16 V = some V.length := by
      have h := HR.out
      rw [hrv] at h
      unfold endI at h
      rw [List.drop_zero] at h
      cases hv : valN 16 V with
      | none => rw [hv] at h; simp at h
      | some n =>
        rw [hv] at h
        dsimp only at h
        have : n = V.length := by omega
        rw [this]
    have HPOST : Hid (BIn V r w.heap.size (.returned (.slice (some ⟨w2.heap.size, 0, none⟩) V.length V.length)) w5 ∧ Below w.heap.size w w5) := Lib.hid (by
      unfold BIn
      rw [if_pos hrv]
      exact ⟨⟨_, es, rfl, HB5.out.lg, HB5.out.hg, HB5.out.size, HF.out hval⟩, HB5.out.bel⟩)
    clear hrv hval HZ
    go_wp2_with fail
    go_ret
    exact HPOST.out
  · have hne : (r != (V.length : Int)) = true := by rw [bne_iff_ne]; exact hrv
    have HPOST : Hid (BIn V r w.heap.size (.returned (.slice none 0 0)) w5 ∧ Below w.heap.size w w5) := Lib.hid (by
      unfold BIn
      rw [if_neg hrv]
      exact ⟨rfl, HB5.out.bel⟩)
    clear hrv HZ
    go_wp2_with fail
    go_ret
    exact HPOST.out
theorem behind_any (V : List Cel) (v : Value) (w : World) (hv : CelSl v V w) (hs : SmallV V) (hE : EnvU w) :
    Calls Tryz.prog 77 #[v] w fun e w' => BRet V w.heap.size e w' ∧ Below w.heap.size w w' := by
  rcases hv with ⟨a, c, rfl, rfl, _⟩ | ⟨b, off, cap, rfl, hrow, hpos⟩
  · exact behind_none a c w
  · by_cases hn : V.length ≤ 2048
    · obtain ⟨_, c1, _⟩ := hrow 0 hpos
      rw [Nat.zero_mul, Nat.add_zero] at c1
      have hhead : (V.headD ⟨0, [0], [], 0, 0⟩).name = V[0].name := by
        cases V with
        | nil => simp at hpos
        | cons c r => rfl
      have hxl : (⟨V[0].name.toArray⟩ : ByteArray).data.toList = V[0].name := by simp
      rcases empty_z ⟨V[0].name.toArray⟩ with ⟨z0, z1, z2, z3⟩ | ⟨z0, z1, z2, z3⟩
      · refine (behind_named V.length b off cap hpos hn _ z1 z2 w c1).mono ?_
        rintro e w' ⟨rfl, hb⟩
        refine ⟨Or.inl ⟨?_, rfl⟩, hb⟩
        unfold mayB
        rw [hhead]
        have : V[0].name.isEmpty = false := by rw [← hxl, ← ByteArray.toList_eq]; exact z2
        rw [this]; simp
      · refine (behind_in V b off cap hpos hn _ z1 z2 w c1 hrow hs hE _ rfl).mono ?_
        rintro e w' ⟨h, hb⟩
        refine ⟨?_, hb⟩
        have hne : V[0].name.isEmpty = true := by rw [← hxl, ← ByteArray.toList_eq]; exact z2
        have hmay : mayB V = (valN 16 V == some V.length) := by
          unfold mayB
          rw [hhead, hne, decide_eq_true hpos, decide_eq_true hn]; simp
        unfold BIn at h
        by_cases hr : endI V 0 16 = (V.length : Int)
        · rw [if_pos hr] at h
          refine Or.inr ⟨?_, ?_⟩
          · rw [hmay]
            unfold endI at hr
            rw [List.drop_zero] at hr
            cases hv : valN 16 V with
            | none => rw [hv] at hr; simp at hr
            | some n =>
              rw [hv] at hr
              dsimp only at hr
              rw [beq_iff_eq]
              have : n = V.length := by omega
              rw [this]
          · obtain ⟨g, es, h1, h2, h3, h4, h5⟩ := h
            exact ⟨g, es, h1, h2, h3, h4, h5⟩
        · rw [if_neg hr] at h
          refine Or.inl ⟨?_, h⟩
          rw [hmay, beq_eq_false_iff_ne]
          intro e
          apply hr
          unfold endI
          rw [List.drop_zero, e]
          simp
    · refine (behind_long V.length b off cap (by omega) hs.1 w).mono ?_
      rintro e w' ⟨rfl, hb⟩
      refine ⟨Or.inl ⟨?_, rfl⟩, hb⟩
      unfold mayB
      rw [decide_eq_false hn]; simp
end Go.Proofs.YtgacpmdebjndkaaGreatDoor
namespace Go.Proofs.YtgacpmdebjndkaaGreatDoor
open Go.RowKit
set_option maxRecDepth 100000 in
theorem ccheck_any (V : List Cel) (v : Value) (w : World) (hv : CelSl v V w) (hs : SmallV V) (hE : EnvU w) :
    Calls Tryz.prog 67 #[v] w fun e w' => e = .returned (.int .i64 (if mayB V then 0 else 8)) ∧ Below w.heap.size w w' := by
  have H := Lib.hid (behind_any V v w hv hs hE)
  have q := fun (w : World) (a : Option Addr) (n c : Nat) => Lib.run_eql_slice_nil w 97 3 a n c 0 0 Tryz.underlying97
  obtain ⟨r, hr⟩ : ∃ r : Int, (if mayB V then (0 : Int) else 8) = r := ⟨_, rfl⟩
  have HR := Lib.hid hr
  rw [hr]
  clear hv hE hs hr
  go_enter Tryz.func67, Tryz.ntmps67
  go_wp2_with fail
  refine H.out.mono ?_; rintro e w1 ⟨h, hb⟩
  rcases h with ⟨hm, rfl⟩ | ⟨hm, g, es, rfl, _⟩
  all_goals
    have HM := Lib.hid hm
    clear hm
    go_wp2_with fail
    go_ret
    exact ⟨ret_i (by rw [← HR.out, HM.out]; rfl), hb⟩
/-- The first place of one that a predicate holds of; -1. -/
def idxI (p : Cel → Bool) : List Cel → Nat → Int
  | [], _ => -1
  | c :: r, i => if p c then (i : Int) else idxI p r (i + 1)
theorem idxI_sign (p : Cel → Bool) : ∀ (V : List Cel) (i : Nat), decide (0 ≤ idxI p V i) = V.any p
  | [], i => rfl
  | c :: r, i => by
    rw [idxI, List.any_cons]
    cases p c with
    | true => simp
    | false => simpa using idxI_sign p r (i + 1)
set_option maxRecDepth 100000 in
theorem cindex_row (g : Nat) (lb : Array Value) (eg : ∀ args w, (callFunc g args).run Tryz.prog w = .ok (.enter g args) w) (p : Cel → Bool) (V : List Cel) (b off cap : Nat) (w : World) (hrow : CelRow b off V w) (hl : V.length ≤ 100000)
    (H : Hid (∀ (W : World) (k : Nat) (hk : k < V.length), Below w.heap.size w W → Calls Tryz.prog g (#[.agg (celCells V[k])] ++ lb) W fun e w' => e = .returned (.bool (p V[k])) ∧ Below W.heap.size W w')) :
    Calls Tryz.prog 78 #[.slice (some ⟨b, off, none⟩) V.length cap, .func (.func g) #[] lb] w fun e w' => e = .returned (.int .i64 (idxI p V 0)) ∧ Below w.heap.size w w' := by
  have HROW := Lib.hid hrow
  obtain ⟨r, hr⟩ : ∃ r, idxI p V 0 = r := ⟨_, rfl⟩
  have HR : Hid (idxI p (V.drop 0) 0 = r) := Lib.hid hr
  rw [hr]
  clear hr hrow
  go_enter Tryz.func78, Tryz.ntmps78
  go_wp2_with fail
  go_loopw [8] (fun i wr => ∃ k : Nat, k ≤ V.length ∧ i = .int .i64 k ∧ Hid (idxI p (V.drop k) k = r) ∧ Hid (Below w.heap.size w wr)) (fun i wr => V.length - (intOf i).toNat)
  case atStart => exact ⟨0, Nat.zero_le _, rfl, HR, Lib.hid (Below.refl _ _)⟩
  case round =>
    rename World => wr
    obtain ⟨k, hk, rfl, HS, HB⟩ := hrel
    by_cases hlt : k < V.length
    · obtain ⟨a0, a1, a2, a3, a4⟩ := (HROW.out.below' HB.out) k hlt
      have HC := Lib.hid (H.out wr k hlt HB.out)
      have hstep := HS.out
      rw [List.drop_eq_getElem_cons hlt, idxI] at hstep
      have hz := HB.out.size
      unfold celCells at HC
      generalize p V[k] = pk at *
      generalize (V[k].kind.toNat : Int) = ka at *
      generalize V[k].num = nu at *
      generalize V[k].many = ma at *
      generalize (⟨V[k].name.toArray⟩ : ByteArray) = x at *
      generalize (⟨V[k].text.toArray⟩ : ByteArray) = y at *
      cases pk with
      | true =>
        rw [if_pos rfl] at hstep
        have HF := Lib.hid hstep
        clear hstep HS
        go_wp2_with fail
        refine HC.out.mono ?_; rintro e w1 ⟨rfl, hb⟩
        have HB1 := Lib.hid (HB.out.trans (hb.mono hz))
        clear hb
        go_wp2_with fail
        go_ret
        exact ⟨ret_i HF.out, HB1.out⟩
      | false =>
        rw [if_neg Bool.false_ne_true] at hstep
        have HF := Lib.hid hstep
        clear hstep HS
        go_wp2_with fail
        refine HC.out.mono ?_; rintro e w1 ⟨rfl, hb⟩
        have HB1 := Lib.hid (HB.out.trans (hb.mono hz))
        clear hb
        go_wp2_with fail
        go_roundw
        case rel => exact ⟨k + 1, by omega, by go_num, HF, HB1⟩
        case measure => simp [intOf]; omega
    · have HF : Hid (-1 = r) := Lib.hid (by rw [← HS.out, List.drop_of_length_le (by omega)]; rfl)
      clear HS
      go_wp2_with fail
      go_ret
      exact ⟨ret_i HF.out, HB.out⟩
set_option maxRecDepth 100000 in
theorem cindex_none (g : Nat) (lb : Array Value) (p : Cel → Bool) (a : Option Addr) (cap : Nat) (w : World) :
    Calls Tryz.prog 78 #[.slice a 0 cap, .func (.func g) #[] lb] w fun e w' => e = .returned (.int .i64 (idxI p [] 0)) ∧ Below w.heap.size w w' := by
  go_enter Tryz.func78, Tryz.ntmps78
  go_wp2_with fail
  refine wp_loop_rounds 1 ?_; rw [rounds_succ]
  go_wp2_with fail
  go_ret
  exact ⟨rfl, Below.refl _ _⟩
set_option maxRecDepth 100000 in
theorem ccontains_any (g : Nat) (lb : Array Value) (eg : ∀ args w, (callFunc g args).run Tryz.prog w = .ok (.enter g args) w) (p : Cel → Bool) (V : List Cel) (v : Value) (w : World) (hv : CelSl v V w) (hl : V.length ≤ 100000)
    (H : Hid (∀ (W : World) (k : Nat) (hk : k < V.length), Below w.heap.size w W → Calls Tryz.prog g (#[.agg (celCells V[k])] ++ lb) W fun e w' => e = .returned (.bool (p V[k])) ∧ Below W.heap.size W w')) :
    Calls Tryz.prog 68 #[v, .func (.func g) #[] lb] w fun e w' => e = .returned (.bool (V.any p)) ∧ Below w.heap.size w w' := by
  have HI : Hid (Calls Tryz.prog 78 #[v, .func (.func g) #[] lb] w fun e w' => e = .returned (.int .i64 (idxI p V 0)) ∧ Below w.heap.size w w') := Lib.hid (by
    rcases hv with ⟨a, c, rfl, rfl, _⟩ | ⟨b, off, cap, rfl, hrow, hpos⟩
    · exact cindex_none g lb p a c w
    · exact cindex_row g lb eg p V b off cap w hrow hl H)
  have hsg := idxI_sign p V 0
  generalize idxI p V 0 = i at *
  rw [← hsg]
  clear H hv hsg eg
  go_enter Tryz.func68, Tryz.ntmps68
  go_wp2_with fail
  refine HI.out.mono ?_; rintro e w1 ⟨rfl, hb⟩
  go_wp2_with fail
  go_ret
  exact ⟨rfl, hb⟩
theorem kind_eq (c : Cel) (k : UInt8) : (c.kind == k) = ((c.kind.toNat : Int) == (k.toNat : Int)) := by
  rw [Bool.eq_iff_iff, beq_iff_eq, beq_iff_eq]
  exact ⟨fun h => by rw [h], fun h => UInt8.toNat_inj.1 (by omega)⟩
end Go.Proofs.YtgacpmdebjndkaaGreatDoor
namespace Go.Proofs.YtgacpmdebjndkaaGreatDoor
open Go.RowKit
theorem rbehind_case (V : List Cel) (b off cap : Nat) (hs : SmallV V) (d : Nat) (hd : d ≤ 16) (W : World) (k : Nat) (hk : k < V.length) (hrow : CelRow b off V W)
    (HIH : 0 < d → Hid (∀ (W' : World) (p : Nat), p < V.length → CelRow b off V W' → Calls Tryz.prog 101 #[.slice (some ⟨b, off, none⟩) V.length cap, .int .i64 (p : Int), .int .i64 ((d : Int) - 1)] W' fun e w' => e = .returned (.int .i64 (endI V p (d - 1))) ∧ Below W'.heap.size W' w')) :
    Calls Tryz.prog 101 #[.slice (some ⟨b, off, none⟩) V.length cap, .int .i64 (k : Int), .int .i64 (d : Int)] W fun e w' => e = .returned (.int .i64 (endI V k d)) ∧ Below W.heap.size W w' := by
  obtain ⟨c0, c1, c2, c3, c4⟩ := hrow k hk
  obtain ⟨s1, s2, s3, s4⟩ := hs.2 V[k] (List.getElem_mem _)
  have HO : Hid (∀ w : World, Calls Tryz.prog 112 #[.agg #[.int .u8 (V[k].kind.toNat : Int), .string ⟨V[k].name.toArray⟩, .string ⟨V[k].text.toArray⟩, .int .i64 V[k].num, .int .i64 V[k].many]] w fun e w' => e = .returned (.bool (oneC V[k])) ∧ Below w.heap.size w w') := Lib.hid fun w => rone03_any V[k] s2 w
  have HSM : Hid (∀ c ∈ V, c.name.length ≤ 100000) := Lib.hid fun c hc => (hs.2 c hc).1
  have HTX : Hid (∀ (W' : World) (x : ByteArray), x.size ≤ 100000 → Calls Tryz.prog 113 #[.string x] W' fun e w' => e = .returned (.bool (textB x.data.toList)) ∧ Below W'.heap.size W' w') := Lib.hid fun W' x hx => rtext03_any x hx W'
  have hnest := nest_kind V[k]
  have hval := valN_drop V k d hk
  have hone := one_kind V[k]
  cases ho : oneC V[k] with
  | false =>
    rw [ho] at HO hval
    rw [endI_none hval]
    exact rb_one V b off cap W k d _ _ _ _ _ hk hs.1 hd c0 c1 c2 c3 c4 HO
  | true =>
    rw [ho] at HO hval
    rw [if_pos rfl] at hval
    have ne6 : ∀ j : Nat, V[k].kind.toNat ≠ j → (((V[k].kind.toNat : Int)) != (j : Int)) = true := fun j h => by rw [bne_iff_ne]; omega
    by_cases h67 : V[k].kind.toNat = 6 ∨ V[k].kind.toNat = 7
    · have hcn : cnest V[k].kind.toNat = true := by
        unfold cnest
        rw [Bool.or_eq_true, beq_iff_eq, beq_iff_eq]; exact h67
      rw [hnest, hcn, if_pos rfl] at hval
      have hm : 0 ≤ V[k].many := by
        rw [ho, hcn, if_pos rfl] at hone
        have := hone.symm
        simp only [Bool.and_eq_true, decide_eq_true_eq] at this
        exact this.2.2
      obtain ⟨m, hm2⟩ := Int.eq_ofNat_of_zero_le hm
      have hmt : V[k].many.toNat = m := by rw [hm2]; rfl
      have hmx : (m : Int) ≤ 9223372036854775807 := by rw [← hm2]; exact s4.2
      by_cases hd0 : d = 0
      · have hn : valN d (V.drop k) = none := by rw [hval]; subst hd0; rfl
        have hdb : ((d : Int) == 0) = true := by rw [hd0]; rfl
        rw [endI_none hn]
        rcases h67 with h | h
        · exact rb_deep6 V b off cap W k d _ _ _ _ _ hk hs.1 hd c0 c1 c2 c3 c4 HO (by rw [h]; rfl) (by rw [h]; rfl) (by rw [h]; rfl) (by rw [h]; rfl) hdb
        · exact rb_deep7 V b off cap W k d _ _ _ _ _ hk hs.1 hd c0 c1 c2 c3 c4 HO (by rw [h]; rfl) (by rw [h]; rfl) (by rw [h]; rfl) (by rw [h]; rfl) hdb
      · obtain ⟨d', rfl⟩ : ∃ d', d = d' + 1 := ⟨d - 1, by omega⟩
        dsimp only at hval
        rw [hmt] at hval
        rw [hm2] at c4 HO
        rcases h67 with h | h
        · have hk6 : (V[k].kind == 6) = true := beq_iff_eq.2 (UInt8.toNat_inj.1 h)
          rw [hk6] at hval
          exact rb_list V b off cap W k (d' + 1) _ _ _ _ m hk hs.1 hd c0 c1 c2 c3 c4 HO (by rw [h]; rfl) (by rw [h]; rfl) (by rw [h]; rfl) (by rw [h]; rfl) (by omega) hmx (Lib.hid hrow) HSM _ rfl hval HTX (HIH (by omega))
        · have hk6 : (V[k].kind == 6) = false := beq_eq_false_iff_ne.2 fun e => by rw [e] at h; exact absurd h (by decide)
          rw [hk6] at hval
          exact rb_obj V b off cap W k (d' + 1) _ _ _ _ m hk hs.1 hd c0 c1 c2 c3 c4 HO (by rw [h]; rfl) (by rw [h]; rfl) (by rw [h]; rfl) (by rw [h]; rfl) (by omega) hmx (Lib.hid hrow) HSM _ rfl hval HTX (HIH (by omega))
    · have hcn : cnest V[k].kind.toNat = false := by
        unfold cnest
        rw [Bool.or_eq_false_iff, beq_eq_false_iff_ne, beq_eq_false_iff_ne]
        omega
      rw [hnest, hcn] at hval
      rw [endI_some hval]
      exact rb_leaf V b off cap W k d _ _ _ _ _ hk hs.1 hd c0 c1 c2 c3 c4 HO (ne6 6 (by omega)) (ne6 7 (by omega))
theorem rbehind_walk (V : List Cel) (b off cap : Nat) (hs : SmallV V) : ∀ d : Nat, d ≤ 16 → ∀ (W : World) (k : Nat), k < V.length → CelRow b off V W →
    Calls Tryz.prog 101 #[.slice (some ⟨b, off, none⟩) V.length cap, .int .i64 (k : Int), .int .i64 (d : Int)] W fun e w' => e = .returned (.int .i64 (endI V k d)) ∧ Below W.heap.size W w' := by
  intro d
  induction d with
  | zero => intro hd W k hk hrow; exact rbehind_case V b off cap hs 0 hd W k hk hrow (fun h => absurd h (by decide))
  | succ d ih =>
    intro hd W k hk hrow
    refine rbehind_case V b off cap hs (d + 1) hd W k hk hrow (fun _ => Lib.hid fun W' p hp hr => ?_)
    have := ih (by omega) W' p hp hr
    rw [show ((d + 1 : Nat) : Int) - 1 = (d : Int) from by omega, show d + 1 - 1 = d from rfl]
    exact this
set_option maxRecDepth 100000 in
theorem rmay03_none (a : Option Addr) (cap : Nat) (w : World) :
    Calls Tryz.prog 94 #[.slice a 0 cap] w fun e w' => e = .returned (.bool (mayB [])) ∧ Below w.heap.size w w' := by
  go_enter Tryz.func94, Tryz.ntmps94
  go_wp2_with fail
  go_ret
  exact ⟨rfl, Below.refl _ _⟩
set_option maxRecDepth 100000 in
theorem rmay03_long (a : Option Addr) (n cap : Nat) (hn : 2048 < n) (hl : n ≤ 100000) (w : World) :
    Calls Tryz.prog 94 #[.slice a n cap] w fun e w' => e = .returned (.bool false) ∧ Below w.heap.size w w' := by
  go_enter Tryz.func94, Tryz.ntmps94
  go_wp2_with fail
  go_ret
  exact ⟨rfl, Below.refl _ _⟩
set_option maxRecDepth 100000 in
theorem rmay03_named (n b off cap : Nat) (hn0 : 0 < n) (hn : n ≤ 2048) (x : ByteArray) (h1 : ¬ x.toList = []) (h2 : x.toList.isEmpty = false) (w : World) (c1 : w.cell? ⟨b, off + 1, none⟩ = some (.string x)) :
    Calls Tryz.prog 94 #[.slice (some ⟨b, off, none⟩) n cap] w fun e w' => e = .returned (.bool false) ∧ Below w.heap.size w w' := by
  go_enter Tryz.func94, Tryz.ntmps94
  go_wp2_with fail
  go_ret
  exact ⟨rfl, Below.refl _ _⟩
set_option maxRecDepth 100000 in
theorem rmay03_in (n b off cap : Nat) (hn0 : 0 < n) (hn : n ≤ 2048) (x : ByteArray) (h1 : x.toList = []) (h2 : x.toList.isEmpty = true) (w : World) (c1 : w.cell? ⟨b, off + 1, none⟩ = some (.string x)) (r : Int)
    (H : Hid (∀ W, Below w.heap.size w W → Calls Tryz.prog 101 #[.slice (some ⟨b, off, none⟩) n cap, .int .i64 0, .int .i64 16] W fun e w' => e = .returned (.int .i64 r) ∧ Below W.heap.size W w')) :
    Calls Tryz.prog 94 #[.slice (some ⟨b, off, none⟩) n cap] w fun e w' => e = .returned (.bool (r == (n : Int))) ∧ Below w.heap.size w w' := by
  go_enter Tryz.func94, Tryz.ntmps94
  go_wp2_with fail
  refine (H.out _ (Below.refl _ _)).mono ?_; rintro e w1 ⟨rfl, hb⟩
  go_wp2_with fail
  go_ret
  exact ⟨rfl, hb⟩
theorem rmay03_any (V : List Cel) (v : Value) (w : World) (hv : CelSl v V w) (hs : SmallV V) :
    Calls Tryz.prog 94 #[v] w fun e w' => e = .returned (.bool (mayB V)) ∧ Below w.heap.size w w' := by
  rcases hv with ⟨a, c, rfl, rfl, _⟩ | ⟨b, off, cap, rfl, hrow, hpos⟩
  · exact rmay03_none a c w
  · by_cases hn : V.length ≤ 2048
    · obtain ⟨_, c1, _⟩ := hrow 0 hpos
      rw [Nat.zero_mul, Nat.add_zero] at c1
      have hhead : (V.headD ⟨0, [0], [], 0, 0⟩).name = V[0].name := by
        cases V with
        | nil => simp at hpos
        | cons c r => rfl
      have hxl : (⟨V[0].name.toArray⟩ : ByteArray).data.toList = V[0].name := by simp
      rcases empty_z ⟨V[0].name.toArray⟩ with ⟨z0, z1, z2, z3⟩ | ⟨z0, z1, z2, z3⟩
      · have hm : mayB V = false := by
          unfold mayB
          rw [hhead]
          have : V[0].name.isEmpty = false := by rw [← hxl, ← ByteArray.toList_eq]; exact z2
          rw [this]; simp
        rw [hm]
        exact rmay03_named V.length b off cap hpos hn _ z1 z2 w c1
      · have hne : V[0].name.isEmpty = true := by rw [← hxl, ← ByteArray.toList_eq]; exact z2
        have hmay : mayB V = (endI V 0 16 == (V.length : Int)) := by
          unfold mayB endI
          rw [hhead, hne, decide_eq_true hpos, decide_eq_true hn, List.drop_zero]
          cases hv : valN 16 V with
          | none => rw [Bool.eq_iff_iff]; simp
          | some k => rw [Bool.eq_iff_iff]; simp; omega
        rw [hmay]
        exact rmay03_in V.length b off cap hpos hn _ z1 z2 w c1 _ (Lib.hid fun W hW => rbehind_walk V b off cap hs 16 (by omega) W 0 hpos (hrow.below' hW))
    · have hm : mayB V = false := by unfold mayB; rw [decide_eq_false hn]; simp
      rw [hm]
      exact rmay03_long _ V.length cap (by omega) hs.1 w
end Go.Proofs.YtgacpmdebjndkaaGreatDoor
namespace Go.Proofs.YtgacpmdebjndkaaGreatDoor
open Go.RowKit
/-- Are cells more than a statement goes through? -/
def greatV (V : List Cel) (most : Nat) : Bool := (V.take most).any (fun c => decide (300 < c.name.length) || decide (3000 < c.text.length)) || decide (most < V.length)
set_option maxRecDepth 100000 in
set_option maxHeartbeats 1000000 in
theorem rgreat03_row (V : List Cel) (most b off cap : Nat) (hl : V.length ≤ 9223372036854775807) (hm : most ≤ 100000) (w : World) (hr : CelRow b off V w) (hsz : ∀ c ∈ V, c.name.length ≤ 9223372036854775807 ∧ c.text.length ≤ 9223372036854775807) :
    Calls Tryz.prog 61 #[.slice (some ⟨b, off, none⟩) V.length cap, .int .i64 (most : Int)] w fun e w' => e = .returned (.bool (greatV V most)) ∧ w = w' := by
  have HT := Lib.hid hr
  have HZ := Lib.hid hsz
  obtain ⟨r, hr2⟩ : ∃ r, greatV V most = r := ⟨_, rfl⟩
  have HR : Hid ((((V.drop 0).take (most - 0)).any (fun c => decide (300 < c.name.length) || decide (3000 < c.text.length)) || decide (most < V.length)) = r) := Lib.hid hr2
  rw [hr2]
  clear hr hr2 hsz
  go_enter Tryz.func61, Tryz.ntmps61
  go_wp2_with fail
  go_loop [5] (fun i => ∃ k : Nat, k ≤ V.length ∧ k ≤ most ∧ i = .int .i64 k ∧ Hid ((((V.drop k).take (most - k)).any (fun c => decide (300 < c.name.length) || decide (3000 < c.text.length)) || decide (most < V.length)) = r)) (fun i => V.length - (intOf i).toNat)
  case atStart => exact ⟨0, Nat.zero_le _, Nat.zero_le _, rfl, HR⟩
  case round =>
    obtain ⟨k, hk, hkm, rfl, HS⟩ := hrel
    by_cases hlt : k < V.length ∧ k < most
    · obtain ⟨hlt, hltm⟩ := hlt
      obtain ⟨_, c1, c2, _⟩ := HT.out k hlt
      obtain ⟨z1, z2⟩ := HZ.out V[k] (List.getElem_mem _)
      have hstep := HS.out
      rw [List.drop_eq_getElem_cons hlt, show most - k = (most - (k + 1)) + 1 from by omega, List.take_succ_cons, List.any_cons] at hstep
      have hx : (⟨V[k].name.toArray⟩ : ByteArray).size = V[k].name.length := by show V[k].name.toArray.size = _; simp
      have hy : (⟨V[k].text.toArray⟩ : ByteArray).size = V[k].text.length := by show V[k].text.toArray.size = _; simp
      rw [← hx] at hstep z1
      rw [← hy] at hstep z2
      clear hx hy
      generalize (⟨V[k].name.toArray⟩ : ByteArray) = x at *
      generalize (⟨V[k].text.toArray⟩ : ByteArray) = y at *
      by_cases hbig : 300 < x.size ∨ 3000 < y.size
      · have HF : Hid (true = r) := Lib.hid (by
          rw [← hstep]
          rcases hbig with h | h <;> simp [h])
        have hbig2 := hbig
        clear hstep HS
        rcases hbig with h | h
        · clear hbig2
          go_wp2_with fail
          go_ret
          exact ⟨ret_b HF.out, rfl⟩
        · clear hbig2
          go_wp2_with fail
          all_goals
            go_ret
            exact ⟨ret_b HF.out, rfl⟩
      · have h1 : x.size ≤ 300 := by omega
        have h2 : y.size ≤ 3000 := by omega
        have e1 : decide (300 < x.size) = false := decide_eq_false (by omega)
        have e2 : decide (3000 < y.size) = false := decide_eq_false (by omega)
        rw [e1, e2, Bool.or_false, Bool.false_or] at hstep
        have HF := Lib.hid hstep
        clear hstep HS hbig
        go_wp2_with fail
        go_round
        case rel => exact ⟨k + 1, by omega, by omega, by go_num, HF⟩
        case measure => simp [intOf]; omega
    · have HF : Hid (decide (most < V.length) = r) := Lib.hid (by
        have := HS.out
        by_cases h : k < V.length
        · rw [show most - k = 0 from by omega, List.take_zero] at this
          simpa using this
        · rw [List.drop_of_length_le (by omega), List.take_nil] at this
          simpa using this)
      clear HS
      by_cases h : k < V.length
      · have h2 : ¬ k < most := by omega
        clear hlt
        go_wp2_with fail
        go_ret
        exact ⟨ret_b HF.out, rfl⟩
      · clear hlt
        go_wp2_with fail
        go_ret
        exact ⟨ret_b HF.out, rfl⟩
set_option maxRecDepth 100000 in
theorem rgreat03_none (a : Option Addr) (cap most : Nat) (hm : most ≤ 100000) (w : World) :
    Calls Tryz.prog 61 #[.slice a 0 cap, .int .i64 (most : Int)] w fun e w' => e = .returned (.bool (greatV [] most)) ∧ w = w' := by
  have hr : Hid (greatV [] most = false) := Lib.hid (by unfold greatV; simp)
  go_enter Tryz.func61, Tryz.ntmps61
  go_wp2_with fail
  refine wp_loop_rounds 1 ?_; rw [rounds_succ]
  go_wp2_with fail
  go_ret
  exact ⟨ret_b hr.out.symm, rfl⟩
theorem rgreat03_any (V : List Cel) (v : Value) (most : Nat) (hl : V.length ≤ maxLen) (hm : most ≤ 100000) (w : World) (hv : CelSl v V w) (hsz : ∀ c ∈ V, c.name.length ≤ maxLen ∧ c.text.length ≤ maxLen) :
    Calls Tryz.prog 61 #[v, .int .i64 (most : Int)] w fun e w' => e = .returned (.bool (greatV V most)) ∧ w = w' := by
  unfold maxLen at *
  rcases hv with ⟨a, c, rfl, rfl, _⟩ | ⟨b, off, cap, rfl, hrow, hpos⟩
  · exact rgreat03_none a c most hm w
  · exact rgreat03_row V most b off cap hl hm w hrow hsz
def eqC (a c : Cel) : Bool := a.kind == c.kind && (a.name == c.name && (a.text == c.text && (a.num == c.num && a.many == c.many)))
def sameV : List Cel → List Cel → Bool
  | [], [] => true
  | a :: r, c :: s => eqC a c && sameV r s
  | _, _ => false
theorem sameV_len : ∀ (L M : List Cel), L.length ≠ M.length → sameV L M = false
  | [], [], h => absurd rfl h
  | [], _ :: _, _ => rfl
  | _ :: _, [], _ => rfl
  | t :: r, u :: s, h => by
    rw [sameV, sameV_len r s (by simpa using h), Bool.and_false]
theorem eqC_iff (a c : Cel) : eqC a c = true ↔ a = c := by
  obtain ⟨k, n, t, i, m⟩ := a
  obtain ⟨k', n', t', i', m'⟩ := c
  unfold eqC
  simp
theorem sameV_iff : ∀ (L M : List Cel), sameV L M = true ↔ L = M
  | [], [] => by simp [sameV]
  | [], _ :: _ => by simp [sameV]
  | _ :: _, [] => by simp [sameV]
  | t :: r, u :: s => by
    rw [sameV, Bool.and_eq_true, eqC_iff, sameV_iff r s]; simp
theorem sameV_drop (L M : List Cel) (k : Nat) (h : k < L.length) (h' : k < M.length) : sameV (L.drop k) (M.drop k) = (eqC L[k] M[k] && sameV (L.drop (k + 1)) (M.drop (k + 1))) := by
  rw [List.drop_eq_getElem_cons h, List.drop_eq_getElem_cons h', sameV]
theorem eqC_no (a c : Cel) (h : ¬ (a.kind.toNat : Int) = (c.kind.toNat : Int) ∨ ¬ a.name = c.name ∨ ¬ a.text = c.text ∨ ¬ a.num = c.num ∨ ¬ a.many = c.many) : eqC a c = false := by
  rw [Bool.eq_false_iff]
  intro e
  have := (eqC_iff a c).1 e
  subst this
  simp at h
set_option maxRecDepth 100000 in
theorem rsame03_len (v1 v2 : Option Addr) (c1 c2 : Nat) (n m : Nat) (hn : n ≤ 100000) (hm : m ≤ 100000) (hne : n ≠ m) (w : World) :
    Calls Tryz.prog 60 #[.slice v1 n c1, .slice v2 m c2] w fun e w' => e = .returned (.bool false) ∧ Below w.heap.size w w' := by
  have h1 : ((n : Int) != (m : Int)) = true := by rw [bne_iff_ne]; omega
  clear hne
  go_enter Tryz.func60, Tryz.ntmps60
  go_wp2_with fail
  go_ret
  exact ⟨rfl, Below.refl _ _⟩
set_option maxRecDepth 100000 in
set_option maxHeartbeats 1000000 in
theorem rsame03_row (L M : List Cel) (b1 o1 c1 b2 o2 c2 : Nat) (hl : L.length ≤ 100000) (hlm : L.length = M.length) (w : World) (h1 : CelRow b1 o1 L w) (h2 : CelRow b2 o2 M w) :
    Calls Tryz.prog 60 #[.slice (some ⟨b1, o1, none⟩) L.length c1, .slice (some ⟨b2, o2, none⟩) L.length c2] w fun e w' => e = .returned (.bool (sameV L M)) ∧ Below w.heap.size w w' := by
  have H1 := Lib.hid h1
  have H2 := Lib.hid h2
  have HM := Lib.hid hlm
  obtain ⟨r, hr⟩ : ∃ r, sameV L M = r := ⟨_, rfl⟩
  have HR : Hid (sameV (L.drop 0) (M.drop 0) = r) := Lib.hid hr
  rw [hr]
  clear hr h1 h2 hlm
  have hnn : ((L.length : Int) != (L.length : Int)) = false := by rw [bne_eq_false_iff_eq]
  have hg : Tryz.prog.eqGuardType Tryz.prog.depth 78 = false := by kernel_rfl
  go_enter Tryz.func60, Tryz.ntmps60
  go_wp2_with fail
  go_loopw [5] (fun i wr => ∃ k : Nat, k ≤ L.length ∧ i = .int .i64 k ∧ Hid (sameV (L.drop k) (M.drop k) = r) ∧ Hid (Below w.heap.size w wr)) (fun i wr => L.length - (intOf i).toNat)
  case atStart => exact ⟨0, Nat.zero_le _, rfl, HR, Lib.hid (Below.refl _ _)⟩
  case round =>
    rename World => wr
    obtain ⟨k, hk, rfl, HS, HB⟩ := hrel
    by_cases hlt : k < L.length
    · have hltm : k < M.length := by rw [← HM.out]; exact hlt
      obtain ⟨a0, a1, a2, a3, a4⟩ := (H1.out.below' HB.out) k hlt
      obtain ⟨d0, d1, d2, d3, d4⟩ := (H2.out.below' HB.out) k hltm
      have hstep := HS.out
      rw [sameV_drop _ _ k hlt hltm] at hstep
      have HNO : Hid ((¬ (L[k].kind.toNat : Int) = (M[k].kind.toNat : Int) ∨ ¬ L[k].name = M[k].name ∨ ¬ L[k].text = M[k].text ∨ ¬ L[k].num = M[k].num ∨ ¬ L[k].many = M[k].many) → false = r) := Lib.hid fun h => by rw [← hstep, eqC_no _ _ h]; rfl
      have HYES : Hid ((L[k].kind.toNat : Int) = (M[k].kind.toNat : Int) → L[k].name = M[k].name → L[k].text = M[k].text → L[k].num = M[k].num → L[k].many = M[k].many → sameV (L.drop (k + 1)) (M.drop (k + 1)) = r) := Lib.hid fun h1 h2 h3 h4 h5 => by
        have : eqC L[k] M[k] = true := by
          unfold eqC
          rw [beq_iff_eq.2 (UInt8.toNat_inj.1 (by omega)), beq_iff_eq.2 h2, beq_iff_eq.2 h3, beq_iff_eq.2 h4, beq_iff_eq.2 h5]; rfl
        rw [← hstep, this, Bool.true_and]
      have hx1 : (⟨L[k].name.toArray⟩ : ByteArray).toList = L[k].name := by rw [ByteArray.toList_eq]
      have hx2 : (⟨M[k].name.toArray⟩ : ByteArray).toList = M[k].name := by rw [ByteArray.toList_eq]
      have hy1 : (⟨L[k].text.toArray⟩ : ByteArray).toList = L[k].text := by rw [ByteArray.toList_eq]
      have hy2 : (⟨M[k].text.toArray⟩ : ByteArray).toList = M[k].text := by rw [ByteArray.toList_eq]
      rw [← hx1, ← hx2, ← hy1, ← hy2] at HNO HYES
      clear hstep hx1 hx2 hy1 hy2
      generalize (L[k].kind.toNat : Int) = ka at *
      generalize (M[k].kind.toNat : Int) = kb at *
      generalize L[k].num = na at *
      generalize M[k].num = nb at *
      generalize L[k].many = ma at *
      generalize M[k].many = mb at *
      generalize (⟨L[k].name.toArray⟩ : ByteArray) = x at *
      generalize (⟨M[k].name.toArray⟩ : ByteArray) = x' at *
      generalize (⟨L[k].text.toArray⟩ : ByteArray) = y at *
      generalize (⟨M[k].text.toArray⟩ : ByteArray) = y' at *
      by_cases e0 : ka = kb
      · by_cases e1 : x.toList = x'.toList
        · by_cases e2 : y.toList = y'.toList
          · by_cases e3 : na = nb
            · by_cases e4 : ma = mb
              · have HEQ := HYES.out e0 e1 e2 e3 e4
                subst e0 e3 e4
                clear HYES HNO
                have HF := Lib.hid HEQ
                clear HEQ HS
                go_wp2_with fail
                go_quiet (fail)
                go_wp2_with fail
                go_roundw
                case rel => exact ⟨k + 1, by omega, by go_num, HF, Lib.hid (below_dN _ HB.out)⟩
                case measure => simp [intOf]; omega
              · have HN := Lib.hid (HNO.out (Or.inr (Or.inr (Or.inr (Or.inr e4)))))
                subst e0 e3
                clear HYES HNO
                clear HS
                go_wp2_with fail
                go_quiet (fail)
                go_wp2_with fail
                go_ret
                exact ⟨ret_b HN.out, below_dN _ HB.out⟩
            · have HN := Lib.hid (HNO.out (Or.inr (Or.inr (Or.inr (Or.inl e3)))))
              subst e0
              clear HYES HNO
              clear HS
              go_wp2_with fail
              go_quiet (fail)
              go_wp2_with fail
              go_ret
              exact ⟨ret_b HN.out, below_dN _ HB.out⟩
          · have HN := Lib.hid (HNO.out (Or.inr (Or.inr (Or.inl e2))))
            subst e0
            clear HYES HNO
            clear HS
            go_wp2_with fail
            go_quiet (fail)
            go_wp2_with fail
            go_ret
            exact ⟨ret_b HN.out, below_dN _ HB.out⟩
        · have HN := Lib.hid (HNO.out (Or.inr (Or.inl e1)))
          subst e0
          clear HYES HNO
          clear HS
          go_wp2_with fail
          go_quiet (fail)
          go_wp2_with fail
          go_ret
          exact ⟨ret_b HN.out, below_dN _ HB.out⟩
      · have HN := Lib.hid (HNO.out (Or.inl e0))
        clear HYES HNO
        clear HS
        go_wp2_with fail
        go_quiet (fail)
        go_wp2_with fail
        go_ret
        exact ⟨ret_b HN.out, below_dN _ HB.out⟩
    · have HF : Hid (true = r) := Lib.hid (by
        have hm : M.length = L.length := HM.out.symm
        rw [← HS.out, List.drop_of_length_le (by omega), List.drop_of_length_le (by omega)]; rfl)
      clear HS
      go_wp2_with fail
      go_ret
      exact ⟨ret_b HF.out, HB.out⟩
set_option maxRecDepth 100000 in
theorem rsame03_none (a v : Option Addr) (c1 c2 : Nat) (w : World) :
    Calls Tryz.prog 60 #[.slice a 0 c1, .slice v 0 c2] w fun e w' => e = .returned (.bool true) ∧ Below w.heap.size w w' := by
  go_enter Tryz.func60, Tryz.ntmps60
  go_wp2_with fail
  refine wp_loop_rounds 1 ?_; rw [rounds_succ]
  go_wp2_with fail
  go_ret
  exact ⟨rfl, Below.refl _ _⟩
theorem rsame03_any (L M : List Cel) (u v : Value) (hl : L.length ≤ 100000) (hm : M.length ≤ 100000) (w : World) (h1 : CelSl u L w) (h2 : CelSl v M w) :
    Calls Tryz.prog 60 #[u, v] w fun e w' => e = .returned (.bool (sameV L M)) ∧ Below w.heap.size w w' := by
  by_cases hlm : L.length = M.length
  · rcases h1 with ⟨a1, c1, rfl, rfl, _⟩ | ⟨b1, o1, c1, rfl, h1, p1⟩
    · obtain rfl : M = [] := List.eq_nil_of_length_eq_zero hlm.symm
      rcases h2 with ⟨a2, c2, rfl, _, _⟩ | ⟨b2, o2, c2, rfl, h2, p2⟩
      · exact rsame03_none a1 a2 c1 c2 w
      · exact rsame03_none a1 _ c1 c2 w
    · rcases h2 with ⟨a2, c2, rfl, rfl, _⟩ | ⟨b2, o2, c2, rfl, h2, p2⟩
      · obtain rfl : L = [] := List.eq_nil_of_length_eq_zero hlm
        exact rsame03_none _ a2 c1 c2 w
      · rw [← hlm]
        exact rsame03_row L M b1 o1 c1 b2 o2 c2 hl hlm w h1 h2
  · rw [sameV_len _ _ hlm]
    rcases h1 with ⟨a1, c1, rfl, rfl, _⟩ | ⟨b1, o1, c1, rfl, h1, p1⟩
    · rcases h2 with ⟨a2, c2, rfl, rfl, _⟩ | ⟨b2, o2, c2, rfl, h2, p2⟩
      · exact absurd rfl hlm
      · exact rsame03_len a1 _ _ _ 0 _ (by omega) hm hlm w
    · rcases h2 with ⟨a2, c2, rfl, rfl, _⟩ | ⟨b2, o2, c2, rfl, h2, p2⟩
      · exact rsame03_len _ a2 _ _ _ 0 hl (by omega) hlm w
      · exact rsame03_len _ _ _ _ _ _ hl hm hlm w
end Go.Proofs.YtgacpmdebjndkaaGreatDoor
namespace Go.Proofs.YtgacpmdebjndkaaGreatDoor
open Go.RowKit
/-- What a variable holds, it holds behind a call that only makes blocks. -/
theorem var_stays_w {P : Program} {w w' : World} {n : String} {cs : Array Value} (hv : w.var? P n = some cs) (hb : Below w.heap.size w w') : w'.var? P n = some cs := by
  unfold World.var? at hv
  obtain ⟨g, hg, h2⟩ := Option.bind_eq_some_iff.1 hv
  have hlt : g < w.heap.size := by
    rcases Nat.lt_or_ge g w.heap.size with h | h
    · exact h
    · rw [Array.getElem?_eq_none h] at h2; cases h2
  unfold World.var?
  rw [hg]
  simp only [Option.bind_some]
  rw [hb.block g hlt]; exact h2
/-- What the library's table of powers holds. -/
def EnvT (w : World) : Prop := Lib.TabIs Tryz.prog w "internal/strconv.uint64pow10" .u64 Lib.pow10Tab
theorem EnvT.stays {w w' : World} (h : EnvT w) (hb : Below w.heap.size w w') : EnvT w' := var_stays_w h hb
end Go.Proofs.YtgacpmdebjndkaaGreatDoor
