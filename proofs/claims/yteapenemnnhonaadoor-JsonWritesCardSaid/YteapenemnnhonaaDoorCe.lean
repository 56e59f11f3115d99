/- The walk through the program's behind (cell). -/
import Derived.Test.YteapenemnnhonaaDoorCb
import Derived.Test.YteapenemnnhonaaDoorTx
import Derived.Maps.AppendAt
set_option linter.unusedSimpArgs false
set_option linter.unusedVariables false
namespace Go.Proofs.YteapenemnnhonaaDoor
open Go.RowKit
theorem row_laid (w1 : World) (old cs : Array Value) (T : TypeId) : ∃ w2, (w1.alloc (.cells old T)).setRow w1.heap.size cs = w2 ∧ w2.heap[w1.heap.size]? = some (.cells cs T (0, 0)) ∧ Below w1.heap.size w1 w2 ∧ w2.heap.size = w1.heap.size + 1 :=
  ⟨_, rfl, setRow_heap _ _ _ cs _ _ (heap_alloc_new w1 _), below_setRow ((Below.refl _ _).alloc (Nat.le_refl _) _) (Nat.le_refl _) _, by simp⟩
theorem made_row {W : World} {n g : Nat} {xs : List Value} {B : Nat} (h : W.ownsRow B 3 1 (.slice (some ⟨g, 0, none⟩) n n) n xs) (hn : 0 < n) : ∃ cur : Array Value, W.heap[g]? = some (.cells cur 3 (0, 0)) ∧ cur.size = n := by
  obtain ⟨h1, h2⟩ := h
  rcases h2 with ⟨h2, h3⟩ | ⟨g', cap, cur, hv, hB, hg, hn', hc, hcs, ht⟩
  · cases h2
  · injection hv with e1 e2 e3
    injection e1 with e1
    injection e1 with e1
    subst e1 e3
    exact ⟨cur, hg, by omega⟩
/-- What the outermost call of behind's inner function leaves. -/
def BTop (V : List Cel) (w0 : World) (b off cap bv ba bw be g : Nat) (W W' : World) : Prop :=
  W.grownBy W' (some g) ∧ ∃ es : Array Value, BH w0 V b off cap bv ba bw be g es W' ∧ (valN 16 V = some V.length → ∀ i, i < V.length → es[i]? = some (.int .i64 (endI V i 16)))
theorem keepT {w0 W W' : World} {V : List Cel} {b off cap bv ba bw be g : Nat} {f s : Value} (h : BTop V w0 b off cap bv ba bw be g W W') (nw : bw ≠ g) (nv : bv ≠ g) (hS : W.cell? ⟨bw, 0, none⟩ = some f ∧ W.cell? ⟨bv, 0, none⟩ = some s ∧ Hid (∃ es, BH w0 V b off cap bv ba bw be g es W)) :
    W'.cell? ⟨bw, 0, none⟩ = some f ∧ W'.cell? ⟨bv, 0, none⟩ = some s ∧ Hid (∃ es, BH w0 V b off cap bv ba bw be g es W') := by
  obtain ⟨h1, h2, h3⟩ := hS
  obtain ⟨g1, es, g2, _⟩ := h
  exact ⟨g1.cell (a := ⟨bw, 0, none⟩) h1 (fun e => nw (Option.some.inj e)), g1.cell (a := ⟨bv, 0, none⟩) h2 (fun e => nv (Option.some.inj e)), Lib.hid ⟨es, g2⟩⟩
def BIn (V : List Cel) (r : Int) (B : Nat) (e : Ending) (w' : World) : Prop := if r = (V.length : Int) then ∃ (g : Nat) (es : Array Value), e = .returned (.slice (some ⟨g, 0, none⟩) V.length V.length) ∧ B ≤ g ∧ w'.heap[g]? = some (.cells es 3 (0, 0)) ∧ es.size = V.length ∧ ∀ i, i < V.length → es[i]? = some (.int .i64 (endI V i 16)) else e = .returned (.slice none 0 0)
/-- What behind hands back. -/
def BRet (V : List Cel) (B : Nat) (e : Ending) (w' : World) : Prop :=
  (mayB V = false ∧ e = .returned (.slice none 0 0)) ∨ (mayB V = true ∧ ∃ (g : Nat) (es : Array Value), e = .returned (.slice (some ⟨g, 0, none⟩) V.length V.length) ∧ B ≤ g ∧ w'.heap[g]? = some (.cells es 3 (0, 0)) ∧ es.size = V.length ∧ ∀ i, i < V.length → es[i]? = some (.int .i64 (endI V i 16)))
set_option maxRecDepth 100000 in
theorem behind_none (a : Option Addr) (cap : Nat) (w : World) :
    Calls Tryd.prog 28 #[.slice a 0 cap] w fun e w' => BRet [] w.heap.size e w' ∧ Below w.heap.size w w' := by
  go_enter Tryd.func28, Tryd.ntmps28
  go_wp2_with fail
  go_ret
  exact ⟨Or.inl ⟨rfl, rfl⟩, (Below.refl _ _).alloc (Nat.le_refl _) _⟩
set_option maxRecDepth 100000 in
theorem behind_long (n b off cap : Nat) (hn : 2048 < n) (hl : n ≤ 100000) (w : World) :
    Calls Tryd.prog 28 #[.slice (some ⟨b, off, none⟩) n cap] w fun e w' => e = .returned (.slice none 0 0) ∧ Below w.heap.size w w' := by
  have h0 : ((n : Int) == 0) = false := by rw [beq_eq_false_iff_ne]; omega
  go_enter Tryd.func28, Tryd.ntmps28
  go_wp2_with fail
  go_ret
  exact ⟨rfl, (Below.refl _ _).alloc (Nat.le_refl _) _⟩
set_option maxRecDepth 100000 in
theorem behind_named (n b off cap : Nat) (hn0 : 0 < n) (hn : n ≤ 2048) (x : ByteArray) (h1 : ¬ x.toList = []) (h2 : x.toList.isEmpty = false) (w : World) (c1 : w.cell? ⟨b, off + 1, none⟩ = some (.string x)) :
    Calls Tryd.prog 28 #[.slice (some ⟨b, off, none⟩) n cap] w fun e w' => e = .returned (.slice none 0 0) ∧ Below w.heap.size w w' := by
  have h0 : ((n : Int) == 0) = false := by rw [beq_eq_false_iff_ne]; omega
  have hlt := lt_of_cell c1
  go_enter Tryd.func28, Tryd.ntmps28
  go_wp2_with fail
  go_ret
  exact ⟨rfl, (Below.refl _ _).alloc (Nat.le_refl _) _⟩
set_option maxRecDepth 100000 in
theorem behind_in (V : List Cel) (b off cap : Nat) (hn0 : 0 < V.length) (hn : V.length ≤ 2048) (x : ByteArray) (h1 : x.toList = []) (h2 : x.toList.isEmpty = true) (w : World) (c1 : w.cell? ⟨b, off + 1, none⟩ = some (.string x))
    (hrow : CelRow b off V w) (hs : SmallV V) (hE : EnvU w) (r : Int) (hr : endI V 0 16 = r) :
    Calls Tryd.prog 28 #[.slice (some ⟨b, off, none⟩) V.length cap] w fun e w' => BIn V r w.heap.size e w' ∧ Below w.heap.size w w' := by
  have h0 : ((V.length : Int) == 0) = false := by rw [beq_eq_false_iff_ne]; omega
  have hlt := lt_of_cell c1
  have HROW := Lib.hid hrow
  have HS := Lib.hid hs
  have HE := Lib.hid hE
  have HR := Lib.hid hr
  have HK := Lib.hid (fun w => kinds_any w)
  have hnew : Hid (∀ (w : World) O, (w.alloc O).heap[w.heap.size]? = some O) := Lib.hid heap_alloc_new
  obtain ⟨i0, hi, hz0, hz1, hz2⟩ := info_parts int_info
  have HI := Lib.hid hi
  have HZ0 := Lib.hid hz0
  have HZ1 := Lib.hid hz1
  have HZ2 := Lib.hid hz2
  clear hrow hs hE hr hi hz0 hz1 hz2
  go_enter Tryd.func28, Tryd.ntmps28
  go_wp2_with fail
  refine (HK.out _).mono ?_; rintro e w1 ⟨rfl, hb⟩
  have hv1 : w1.heap[w.heap.size]? = some (.cells #[.slice (some ⟨b, off, none⟩) V.length cap] 22 (0, 0)) := (hb.block _ (by simp)).trans (hnew.out w _)
  have hb1 : Below w.heap.size w w1 := ((Below.refl _ _).alloc (Nat.le_refl _) _).trans (hb.mono (by simp))
  have HV1 := Lib.hid hv1
  have HB1 := Lib.hid hb1
  have hz1 : w.heap.size + 1 ≤ w1.heap.size := by have := hb.size; simpa using this
  clear hb hv1 hb1
  have hmf : ∀ (fn : Fn) (first cp : Array Value) (w : World), (Instr.makeFunc fn first cp).run Tryd.prog w = .ok (.func fn first cp) w := fun _ _ _ _ => rfl
  go_wp2_with (first
    | (refine wpList_store_row rfl 67 _ _ rfl w1.heap.size kindsA rfl rfl 67 #[.nilFunc, .nilFunc, .bool false, .nilFunc, .nilFunc, .bool false, .nilFunc, .nilFunc, .bool false, .nilFunc, .nilFunc, .bool false, .nilFunc, .nilFunc, .bool false, .nilFunc, .nilFunc, .bool false, .nilFunc, .nilFunc, .bool false, .nilFunc, .nilFunc, .bool false] (hnew.out _ _) (by kernel_rfl) rfl kindsA_one ?_; obtain ⟨w2, hw2, hA2, hB2, hZ2⟩ := row_laid w1 #[.nilFunc, .nilFunc, .bool false, .nilFunc, .nilFunc, .bool false, .nilFunc, .nilFunc, .bool false, .nilFunc, .nilFunc, .bool false, .nilFunc, .nilFunc, .bool false, .nilFunc, .nilFunc, .bool false, .nilFunc, .nilFunc, .bool false, .nilFunc, .nilFunc, .bool false] kindsA 67; rw [hw2]; clear hw2; have HA2 := Lib.hid hA2; have HB2 := Lib.hid hB2; have HZ2' := Lib.hid hZ2; have HV2 := Lib.hid ((hB2.block _ (heap_lt HV1.out)).trans HV1.out); have v2 : w2.cell? ⟨w.heap.size, 0, none⟩ = some (.slice (some ⟨b, off, none⟩) V.length cap) := (by rw [Lib.cell_of_heap HV2.out]; rfl); clear hA2 hB2 hZ2)
    | (at_make; refine wpList_make_full _ rfl _ _ 56 rfl w.heap.size 3 i0 (.int .i64 0) 1 Tryd.underlying56 HI.out HZ0.out HZ1.out .i64 .i64 _ _ V.length rfl rfl rfl rfl (by rw [HZ2.out]; omega) (by unfold maxLen; omega) (by rw [HZ2'.out]; omega) ?_; intro w3 hown3 hgrow3; have HO3 := Lib.hid hown3; have HG3 := Lib.hid hgrow3; clear hown3 hgrow3 v2))
  obtain ⟨cur, hcur, hcs⟩ := made_row HO3.out hn0
  have hz2 := HZ2'.out
  have hz3 : w2.heap.size + 1 ≤ w3.heap.size := heap_lt hcur
  have b1 := HB1.out
  have b2 : Below w.heap.size w w2 := HB1.out.trans (HB2.out.mono (by omega))
  have b3 : Below w.heap.size w w3 := b2.grown HG3.out b2.size (by intro k hk; cases hk)
  obtain ⟨w4, hw4⟩ : ∃ w4, ((w3.alloc (.cells #[.slice (some ⟨w2.heap.size, 0, none⟩) V.length V.length] 56)).alloc (.cells #[.func (.func 35) #[] #[.pointer (some ⟨w.heap.size, 0, none⟩), .pointer (some ⟨w1.heap.size, 0, none⟩), .pointer (some ⟨w3.heap.size + 1, 0, none⟩), .pointer (some ⟨w3.heap.size, 0, none⟩)]] 69)) = w4 := ⟨_, rfl⟩
  have b4 : Below w3.heap.size w3 w4 := by rw [← hw4]; exact ((Below.refl _ _).alloc (Nat.le_refl _) _).alloc (by simp) _
  have g3 : ∀ (i : Nat) (O : Obj), w2.heap[i]? = some O → w4.heap[i]? = some O := fun i O h => by
    have h' : w3.heap[i]? = some O := (HG3.out.block i (heap_lt h) (by intro e; cases e)).trans h
    exact (b4.block i (heap_lt h')).trans h'
  have HBH : Hid (∃ es, BH w V b off cap w.heap.size w1.heap.size (w3.heap.size + 1) w3.heap.size w2.heap.size es w4) := Lib.hid ⟨cur, {
    hv := g3 _ _ HV2.out
    ha := g3 _ _ HA2.out
    hw := by rw [← hw4]; exact heap_new _ _ _ (by simp)
    he := by rw [← hw4]; exact heap_old (heap_new _ _ _ rfl)
    hg := (b4.block _ (heap_lt hcur)).trans hcur
    size := hcs
    bel := b3.trans (b4.mono b3.size)
    lv := Nat.le_refl _
    la := by omega
    lw := by omega
    le := by omega
    lg := by omega
    nv := by omega
    na := by omega
    nw := by omega
    ne := by omega }⟩
  have q0 : w4.cell? ⟨w3.heap.size + 1, 0, none⟩ = some (.func (.func 35) #[] #[.pointer (some ⟨w.heap.size, 0, none⟩), .pointer (some ⟨w1.heap.size, 0, none⟩), .pointer (some ⟨w3.heap.size + 1, 0, none⟩), .pointer (some ⟨w3.heap.size, 0, none⟩)]) := by obtain ⟨es, h⟩ := HBH.out; rw [Lib.cell_of_heap h.hw]; rfl
  have q1 : w4.cell? ⟨w.heap.size, 0, none⟩ = some (.slice (some ⟨b, off, none⟩) V.length cap) := by obtain ⟨es, h⟩ := HBH.out; rw [Lib.cell_of_heap h.hv]; rfl
  have q0' : w4.drew.cell? ⟨w3.heap.size + 1, 0, none⟩ = _ := q0
  have q1' : w4.drew.cell? ⟨w.heap.size, 0, none⟩ = _ := q1
  have HBHd : Hid (∃ es, BH w V b off cap w.heap.size w1.heap.size (w3.heap.size + 1) w3.heap.size w2.heap.size es w4.drew) := Lib.hid (by obtain ⟨es, h⟩ := HBH.out; exact ⟨es, h.below ⟨rfl, rfl, rfl, Nat.le_refl _, fun _ _ => rfl⟩⟩)
  have HS0 := Lib.hid (And.intro q0' (And.intro q1' HBHd))
  have HCALL : Hid (∀ W : World, (W.cell? ⟨w3.heap.size + 1, 0, none⟩ = some (.func (.func 35) #[] #[.pointer (some ⟨w.heap.size, 0, none⟩), .pointer (some ⟨w1.heap.size, 0, none⟩), .pointer (some ⟨w3.heap.size + 1, 0, none⟩), .pointer (some ⟨w3.heap.size, 0, none⟩)]) ∧ W.cell? ⟨w.heap.size, 0, none⟩ = some (.slice (some ⟨b, off, none⟩) V.length cap) ∧ Hid (∃ es, BH w V b off cap w.heap.size w1.heap.size (w3.heap.size + 1) w3.heap.size w2.heap.size es W)) →
      Calls Tryd.prog 35 #[.int .i64 0, .int .i64 16, .pointer (some ⟨w.heap.size, 0, none⟩), .pointer (some ⟨w1.heap.size, 0, none⟩), .pointer (some ⟨w3.heap.size + 1, 0, none⟩), .pointer (some ⟨w3.heap.size, 0, none⟩)] W fun e w' => e = .returned (.int .i64 r) ∧ BTop V w b off cap w.heap.size w1.heap.size (w3.heap.size + 1) w3.heap.size w2.heap.size W w') := Lib.hid (by
    intro W hW
    obtain ⟨es, hB⟩ := hW.2.2.out
    have := behind_walk w V b off cap _ _ _ _ _ HROW.out hlt HS.out HE.out 16 (by omega) W es 0 hn0 hB
    refine this.mono ?_
    rintro e w' ⟨h1, h2, es', h3, h4, h5⟩
    rw [HR.out] at h1
    refine ⟨h1, h2, es', hB.grown h2 h3 h4, fun hv i hi => ?_⟩
    exact (h5 _ (by rw [List.drop_zero]; exact hv)).2 i (Nat.zero_le _) (by omega))
  clear q0 q1 q0' q1' HBHd hcur hcs b1 b2 b3 b4 g3 hmf
  rw [hw4]
  clear hw4
  go_region_held3 (fun W => W.cell? ⟨w3.heap.size + 1, 0, none⟩ = some (.func (.func 35) #[] #[.pointer (some ⟨w.heap.size, 0, none⟩), .pointer (some ⟨w1.heap.size, 0, none⟩), .pointer (some ⟨w3.heap.size + 1, 0, none⟩), .pointer (some ⟨w3.heap.size, 0, none⟩)]) ∧ W.cell? ⟨w.heap.size, 0, none⟩ = some (.slice (some ⟨b, off, none⟩) V.length cap) ∧ Hid (∃ es, BH w V b off cap w.heap.size w1.heap.size (w3.heap.size + 1) w3.heap.size w2.heap.size es W))
    (first | assumption | exact HS0.out | exact keepT (by assumption) (by omega) (by omega) (by assumption))
    (first | ((with_reducible refine (HCALL.out _ (by assumption)).mono ?_); rintro e w5 ⟨rfl, hb⟩))
  clear hz2 hz3
  obtain ⟨hg5, es, hB5, hfill⟩ := hb
  have e0 : w5.cell? ⟨w3.heap.size, 0, none⟩ = some (.slice (some ⟨w2.heap.size, 0, none⟩) V.length V.length) := by rw [Lib.cell_of_heap hB5.he]; rfl
  have HF := Lib.hid hfill
  have HB5 := Lib.hid hB5
  have HZ := HZ2'.out
  clear hfill hB5 hg5
  by_cases hrv : r = (V.length : Int)
  · have hne : (r != (V.length : Int)) = false := by rw [bne_eq_false_iff_eq]; exact hrv
    have hval : valN 16 V = some V.length := by
      have h := HR.out
      rw [hrv] at h
      unfold endI at h
      rw [List.drop_zero] at h
      cases hv : valN 16 V with
      | none => rw [hv] at h; simp at h
      | some n =>
        rw [hv] at h
        dsimp only at h
        have : n = V.length := by omega
        rw [this]
    have HPOST : Hid (BIn V r w.heap.size (.returned (.slice (some ⟨w2.heap.size, 0, none⟩) V.length V.length)) w5 ∧ Below w.heap.size w w5) := Lib.hid (by
      unfold BIn
      rw [if_pos hrv]
      exact ⟨⟨_, es, rfl, HB5.out.lg, HB5.out.hg, HB5.out.size, HF.out hval⟩, HB5.out.bel⟩)
    clear hrv hval HZ
    go_wp2_with fail
    go_ret
    exact HPOST.out
  · have hne : (r != (V.length : Int)) = true := by rw [bne_iff_ne]; exact hrv
    have HPOST : Hid (BIn V r w.heap.size (.returned (.slice none 0 0)) w5 ∧ Below w.heap.size w w5) := Lib.hid (by
      unfold BIn
      rw [if_neg hrv]
      exact ⟨rfl, HB5.out.bel⟩)
    clear hrv HZ
    go_wp2_with fail
    go_ret
    exact HPOST.out
theorem behind_any (V : List Cel) (v : Value) (w : World) (hv : CelSl v V w) (hs : SmallV V) (hE : EnvU w) :
    Calls Tryd.prog 28 #[v] w fun e w' => BRet V w.heap.size e w' ∧ Below w.heap.size w w' := by
  rcases hv with ⟨a, c, rfl, rfl, _⟩ | ⟨b, off, cap, rfl, hrow, hpos⟩
  · exact behind_none a c w
  · by_cases hn : V.length ≤ 2048
    · obtain ⟨_, c1, _⟩ := hrow 0 hpos
      rw [Nat.zero_mul, Nat.add_zero] at c1
      have hhead : (V.headD ⟨0, [0], [], 0, 0⟩).name = V[0].name := by
        cases V with
        | nil => simp at hpos
        | cons c r => rfl
      have hxl : (⟨V[0].name.toArray⟩ : ByteArray).data.toList = V[0].name := by simp
      rcases empty_z ⟨V[0].name.toArray⟩ with ⟨z0, z1, z2, z3⟩ | ⟨z0, z1, z2, z3⟩
      · refine (behind_named V.length b off cap hpos hn _ z1 z2 w c1).mono ?_
        rintro e w' ⟨rfl, hb⟩
        refine ⟨Or.inl ⟨?_, rfl⟩, hb⟩
        unfold mayB
        rw [hhead]
        have : V[0].name.isEmpty = false := by rw [← hxl, ← ByteArray.toList_eq]; exact z2
        rw [this]; simp
      · refine (behind_in V b off cap hpos hn _ z1 z2 w c1 hrow hs hE _ rfl).mono ?_
        rintro e w' ⟨h, hb⟩
        refine ⟨?_, hb⟩
        have hne : V[0].name.isEmpty = true := by rw [← hxl, ← ByteArray.toList_eq]; exact z2
        have hmay : mayB V = (valN 16 V == some V.length) := by
          unfold mayB
          rw [hhead, hne, decide_eq_true hpos, decide_eq_true hn]; simp
        unfold BIn at h
        by_cases hr : endI V 0 16 = (V.length : Int)
        · rw [if_pos hr] at h
          refine Or.inr ⟨?_, ?_⟩
          · rw [hmay]
            unfold endI at hr
            rw [List.drop_zero] at hr
            cases hv : valN 16 V with
            | none => rw [hv] at hr; simp at hr
            | some n =>
              rw [hv] at hr
              dsimp only at hr
              rw [beq_iff_eq]
              have : n = V.length := by omega
              rw [this]
          · obtain ⟨g, es, h1, h2, h3, h4, h5⟩ := h
            exact ⟨g, es, h1, h2, h3, h4, h5⟩
        · rw [if_neg hr] at h
          refine Or.inl ⟨?_, h⟩
          rw [hmay, beq_eq_false_iff_ne]
          intro e
          apply hr
          unfold endI
          rw [List.drop_zero, e]
          simp
    · refine (behind_long V.length b off cap (by omega) hs.1 w).mono ?_
      rintro e w' ⟨rfl, hb⟩
      refine ⟨Or.inl ⟨?_, rfl⟩, hb⟩
      unfold mayB
      rw [decide_eq_false hn]; simp
end Go.Proofs.YteapenemnnhonaaDoor
