/- doc.input, doc.Check: which documents may be. -/
import Derived.Test.YtbejhdhhkpllfaaGreatDoorXj
import Derived.Deep.LoopGhost
set_option linter.unusedSimpArgs false
set_option linter.unusedVariables false
namespace Go.Proofs.YtbejhdhhkpllfaaGreatDoor
open Go.RowKit
/-- A variable's own part: the program's words and the reference's. -/
def inDB (x : Inp) : Bool := mayI x && x.dirs.isEmpty
theorem isV_kind (c : Cel) : ((c.kind.toNat : Int) == 5) = isV c := by
  unfold isV
  rw [Bool.eq_iff_iff, beq_iff_eq, beq_iff_eq, ← UInt8.toNat_inj]
  show ((c.kind.toNat : Int) = 5) ↔ c.kind.toNat = 5
  omega
theorem plain_isV {V : List Cel} (h : plainB V = true) : V.any isV = false := by
  unfold plainB at h
  rw [Bool.and_eq_true] at h
  rw [List.any_eq_false]
  intro c hc
  have := List.all_eq_true.1 h.2 c hc
  unfold isV
  cases h5 : (c.kind == 5) with
  | false => simp
  | true => rw [h5] at this; simp at this
set_option maxRecDepth 100000 in
theorem di1_any (c : Cel) (w : World) : Calls Tryz.prog 43 #[.agg (celCells c)] w fun e w' => e = .returned (.bool (isV c)) ∧ Below w.heap.size w w' := by
  rw [← isV_kind]
  unfold celCells
  generalize (c.kind.toNat : Int) = kk
  generalize (⟨c.name.toArray⟩ : ByteArray) = x1
  generalize (⟨c.text.toArray⟩ : ByteArray) = x2
  generalize c.num = x3
  generalize c.many = x4
  go_enter Tryz.func43, Tryz.ntmps43
  go_wp2_with fail
  go_ret
  exact ⟨rfl, (Below.refl _ _).alloc (Nat.le_refl _) _⟩
theorem di1_ent : ∀ args w, (callFunc 43 args).run Tryz.prog w = .ok (.enter 43 args) w := enters_of Tryz.func43 (by kernel_rfl) rfl
theorem din_any (x : Inp) (ev : Value) (w : World) (h : InpV ev x w) (hs : InpSm x) (hE : EnvU w) (hT : EnvT w) :
    Calls Tryz.prog 15 #[ev] w fun e w' => e = .returned (.bool (inDB x)) ∧ Below w.heap.size w w' := by
  obtain ⟨a0, n0, c0, a1, n1, c1, a2, n2, c2, rfl, h1, h2, h3⟩ := h
  obtain ⟨s1, s2, s3, s4, s5⟩ := hs
  have hd : n2 = x.dirs.length := xsl_len h3
  have hv : n1 = x.dflt.length := celsl_len h2
  have hr : inDB x = (ttB x.tnm x.wr && nameB x.name && !decide ((0 : Int) < (n2 : Int)) && cond x.has (litB x.dflt && (plainB x.dflt || !x.dflt.any isV)) ((n1 : Int) == 0)) := by
    unfold inDB mayI
    have e1 : (!decide ((0 : Int) < (n2 : Int))) = x.dirs.isEmpty := by
      rw [hd]; cases x.dirs with
      | nil => rfl
      | cons c r => rw [List.length_cons, Bool.eq_iff_iff]; simp; try omega
    have e2 : ((n1 : Int) == 0) = x.dflt.isEmpty := by
      rw [hv]; cases x.dflt with
      | nil => rfl
      | cons c r => rw [List.length_cons, Bool.eq_iff_iff]; simp; try omega
    have e3 : (plainB x.dflt || !x.dflt.any isV) = !x.dflt.any isV := by
      cases hp : plainB x.dflt with
      | false => rfl
      | true => rw [plain_isV hp]; rfl
    rw [e1, e2, e3]
    cases ttB x.tnm x.wr <;> cases nameB x.name <;> cases x.dirs.isEmpty <;> cases (cond x.has (litB x.dflt && !x.dflt.any isV) x.dflt.isEmpty) <;> rfl
  rw [hr]
  refine din_c _ _ _ _ _ _ _ _ _ _ _ _ (ttB x.tnm x.wr) (nameB x.name) (litB x.dflt) (plainB x.dflt) (x.dflt.any isV) _ _ w ?_ ?_ ?_ ?_ ?_ rfl rfl (by rw [Bool.eq_iff_iff]; simp) (by rw [Bool.eq_iff_iff, beq_iff_eq, beq_iff_eq]; omega)
  · refine Lib.hid fun W hW => (tt_any ⟨x.tnm.toArray⟩ x.wr _ W (h1.below hW) (by rw [← bsz]; exact s2) (by omega)).mono ?_
    rintro e w' ⟨⟨v, rfl, _⟩, hb⟩
    exact ⟨⟨v, by unfold ttE; cases ttB x.tnm x.wr <;> rfl⟩, hb⟩
  · exact Lib.hid fun W _ => calls_below (lname_big _ (by rw [← bsz]; exact s1) W)
  · refine Lib.hid fun W hW => (tokens_any x.dflt _ W (h2.below hW) s4 (hE.below hW) (hT.stays hW)).mono ?_
    rintro e w' ⟨⟨v, rfl, _⟩, hb⟩
    exact ⟨⟨v, by unfold toksE; cases litB x.dflt <;> rfl⟩, hb⟩
  · exact Lib.hid fun W hW => cplain_any x.dflt _ W (h2.below hW) s4 (hE.below hW)
  · exact Lib.hid fun W hW => ccontains_any _ #[] di1_ent isV x.dflt _ W (h2.below hW) s4.1 (Lib.hid fun W' k hk _ => by
      have := di1_any x.dflt[k] W'
      simpa using this)
set_option maxRecDepth 100000 in
theorem dc1_any (x : Inp) (ev : Value) (w : World) (h : InpV ev x w) (hs : InpSm x) (hE : EnvU w) (hT : EnvT w) :
    Calls Tryz.prog 14 #[ev] w fun e w' => e = .returned (.bool (!inDB x)) ∧ Below w.heap.size w w' := by
  have HC : Hid (∀ W, Below w.heap.size w W → Calls Tryz.prog 15 #[ev] W fun e w' => e = .returned (.bool (inDB x)) ∧ Below W.heap.size W w') := Lib.hid fun W hW => din_any x ev W (h.below hW) hs (hE.below hW) (hT.stays hW)
  generalize inDB x = t at *
  obtain ⟨a0, n0, c0, a1, n1, c1, a2, n2, c2, rfl, h1, h2, h3⟩ := h
  clear h1 h2 h3 hs
  generalize (⟨x.name.toArray⟩ : ByteArray) = x1 at *
  generalize (⟨x.tnm.toArray⟩ : ByteArray) = x2 at *
  generalize x.has = x3 at *
  go_enter Tryz.func14, Tryz.ntmps14
  go_wp2_with fail
  refine (HC.out _ ((Below.refl _ _).alloc (Nat.le_refl _) _)).mono ?_; rintro e w5 ⟨rfl, hb⟩
  have HB := Lib.hid (((Below.refl w.heap.size w).alloc (Nat.le_refl _) (.cells #[.string x1, .string x2, .slice a0 n0 c0, .bool x3, .slice a1 n1 c1, .slice a2 n2 c2] 48 (0, 0))).trans (hb.mono (by simp)))
  clear hb
  go_wp2_with fail
  go_ret
  exact ⟨rfl, HB.out⟩
theorem dc1_ent : ∀ args w, (callFunc 14 args).run Tryz.prog w = .ok (.enter 14 args) w := enters_of Tryz.func14 (by kernel_rfl) rfl
noncomputable def oprB (x : OpD) : Bool := (decide (x.kind.toNat = 1) || decide (x.kind.toNat = 2)) && (x.name.isEmpty || nameB x.name) && selsB x.sels x.many && !x.vars.any fun v => !inDB v
noncomputable def frgB (x : FrgD) : Bool := nameB x.name && !(x.name == [111, 110]) && nameB x.on && selsB x.sels x.many
noncomputable def docB (x : DocD) : Bool := decide (0 < x.ops.length + x.frags.length) && x.ops.all oprB && x.frags.all frgB
def OprAt (a : Option Addr) (n : Nat) (L : List OpD) (w : World) : Prop := n = L.length ∧ (0 < L.length → ∃ b off, a = some ⟨b, off, none⟩ ∧ RowG 5 OprE ⟨b, off, none⟩ L w)
theorem oprAt_of {a : Option Addr} {n c : Nat} {F : List OpD} {w : World} (h : OprSl (.slice a n c) F w) : OprAt a n F w := by
  rcases h with ⟨a2, c2, e, rfl⟩ | ⟨b, off, c2, e, h, hp⟩
  · injection e with e1 e2 e3
    exact ⟨e2, fun h => absurd h (by simp)⟩
  · injection e with e1 e2 e3
    exact ⟨e2, fun _ => ⟨b, off, e1, h⟩⟩
def FrgAt (a : Option Addr) (n : Nat) (L : List FrgD) (w : World) : Prop := n = L.length ∧ (0 < L.length → ∃ b off, a = some ⟨b, off, none⟩ ∧ RowG 4 FrgE ⟨b, off, none⟩ L w)
theorem frgAt_of {a : Option Addr} {n c : Nat} {F : List FrgD} {w : World} (h : FrgSl (.slice a n c) F w) : FrgAt a n F w := by
  rcases h with ⟨a2, c2, e, rfl⟩ | ⟨b, off, c2, e, h, hp⟩
  · injection e with e1 e2 e3
    exact ⟨e2, fun h => absurd h (by simp)⟩
  · injection e with e1 e2 e3
    exact ⟨e2, fun _ => ⟨b, off, e1, h⟩⟩
def OprRm (x : OpD) : Prop := OprSm x ∧ (∀ s ∈ x.sels, SelRm s) ∧ (-9223372036854775808 ≤ x.many ∧ x.many ≤ 9223372036854775807)
def FrgRm (x : FrgD) : Prop := FrgSm x ∧ (∀ s ∈ x.sels, SelRm s) ∧ (-9223372036854775808 ≤ x.many ∧ x.many ≤ 9223372036854775807)
set_option maxRecDepth 100000 in
set_option maxHeartbeats 16000000 in
theorem dcheck_go (L : List OpD) (M : List FrgD) (oa fa : Option Addr) (on_ oc fn_ fc : Nat) (w : World) (ho : OprAt oa on_ L w) (hf : FrgAt fa fn_ M w) (hl : L.length ≤ 100000) (hm : M.length ≤ 100000)
    (hso : ∀ x ∈ L, OprRm x) (hsf : ∀ x ∈ M, FrgRm x) (hE : EnvU w) (hT : EnvT w) :
    Calls Tryz.prog 5 #[.agg #[.slice oa on_ oc, .slice fa fn_ fc]] w fun e w' => e = .returned (.int .i64 (cond (decide (0 < L.length + M.length) && L.all oprB && M.all frgB) 0 8)) ∧ Below w.heap.size w w' := by
  obtain ⟨Z, hZ⟩ : ∃ Z, (decide (0 < L.length + M.length) && L.all oprB) = Z := ⟨_, rfl⟩
  obtain ⟨Z2, hZ2⟩ : ∃ Z2, (Z && M.all frgB) = Z2 := ⟨_, rfl⟩
  rw [hZ, hZ2]
  have h0 : decide (0 < L.length + M.length) = decide ((0 : Int) < (on_ : Int) + (fn_ : Int)) := by rw [ho.1, hf.1, Bool.eq_iff_iff]; simp; omega
  rw [h0] at hZ
  have HZ0 : Hid ((decide ((0 : Int) < (on_ : Int) + (fn_ : Int)) && (L.drop 0).all oprB) = Z) := Lib.hid hZ
  have HZ2 : Hid ((Z && (M.drop 0).all frgB) = Z2) := Lib.hid hZ2
  have HO := Lib.hid ho
  have HFR := Lib.hid hf
  have HSO := Lib.hid hso
  have HSF := Lib.hid hsf
  have HNO : Hid (on_ = L.length) := Lib.hid ho.1
  have HNF : Hid (fn_ = M.length) := Lib.hid hf.1
  have HE0 := Lib.hid hE
  have HT0 := Lib.hid hT
  have hon : on_ ≤ 100000 := by rw [ho.1]; exact hl
  have hfn : fn_ ≤ 100000 := by rw [hf.1]; exact hm
  have sum1 : IntKind.i64.wrap ((on_ : Int) + (fn_ : Int)) = (on_ : Int) + (fn_ : Int) := IntWalk.i64_in _ (by omega)
  obtain ⟨m0, hm0⟩ : ∃ t : Bool, decide ((0 : Int) < (on_ : Int) + (fn_ : Int)) = t := ⟨_, rfl⟩
  rw [hm0] at HZ0
  clear ho hf hl hm hso hsf hE hT hZ hZ2 h0
  go_enter Tryz.func5, Tryz.ntmps5
  go_upto_region 1 with fail
  obtain ⟨db, hdb⟩ : ∃ db, w.heap.size = db := ⟨_, rfl⟩
  obtain ⟨w1, hw1⟩ : ∃ w1, w.alloc (.cells #[.slice oa on_ oc, .slice fa fn_ fc] 25 (0, 0)) = w1 := ⟨_, rfl⟩
  have HBD : Hid (Below w.heap.size w w1) := Lib.hid (by rw [← hw1]; exact (Below.refl _ _).alloc (Nat.le_refl _) _)
  have kd : w1.heap[w.heap.size]? = some (.cells #[.slice oa on_ oc, .slice fa fn_ fc] 25 (0, 0)) := by rw [← hw1]; exact heap_new _ _ _ rfl
  rw [hdb] at kd
  have MD : Hid (∀ W, Below w1.heap.size w1 W → W.cell? ⟨db, 0, none⟩ = some (.slice oa on_ oc) ∧ W.cell? ⟨db, 1, none⟩ = some (.slice fa fn_ fc)) := Lib.hid fun W hW => ⟨(Lib.cell_of_heap ((hW.block _ (heap_lt kd)).trans kd) 0).trans rfl, (Lib.cell_of_heap ((hW.block _ (heap_lt kd)).trans kd) 1).trans rfl⟩
  obtain ⟨g0, g1⟩ := MD.out w1 (Below.refl _ _)
  try rw [hw1]
  try rw [hdb]
  clear hw1 kd hdb
  go_wp2_with fail
  go_loopw [3, 20] (fun mv iv wr => ∃ (i : Nat) (mv' : Bool), i ≤ on_ ∧ mv = .bool mv' ∧ iv = .int .i64 (i : Int) ∧ Hid ((mv' && (L.drop i).all oprB) = Z) ∧ Hid (Below w1.heap.size w1 wr)) (fun mv iv wr => on_ - (intOf iv).toNat)
  case atStart => exact ⟨0, m0, Nat.zero_le _, rfl, rfl, HZ0, Lib.hid (Below.refl _ _)⟩
  case round =>
    clear HZ0 g0 g1 hm0
    rename World => wr
    obtain ⟨i, mv, hi, rfl, rfl, HQ, HB⟩ := hrel
    have hz := HB.out.size
    have HBR := Lib.hid (HBD.out.trans (HB.out.mono HBD.out.size))
    by_cases hin : i < on_
    · as_aux_lemma =>
        have hil : i < L.length := by have := HNO.out; omega
        obtain ⟨b, off, rfl, hrow⟩ := HO.out.2 (by omega)
        obtain ⟨y0, y1, y2, y3, y4, y5, q0, q1, q2, q3, q4, yy, yz⟩ := Opr_at (RowG.below hrow fun _ _ h => OprE.below h HBR.out) i hil
        obtain ⟨⟨s1, s2, s3⟩, s4, s5⟩ := HSO.out L[i] (List.getElem_mem hil)
        have hq := HQ.out
        rw [List.drop_eq_getElem_cons hil, List.all_cons] at hq
        unfold oprB at hq
        obtain ⟨tN, htN⟩ : ∃ t, nameB L[i].name = t := ⟨_, rfl⟩
        obtain ⟨tS, htS⟩ : ∃ t, selsB L[i].sels L[i].many = t := ⟨_, rfl⟩
        obtain ⟨tV, htV⟩ : ∃ t, (L[i].vars.any fun v => !inDB v) = t := ⟨_, rfl⟩
        have e1 : (⟨L[i].name.toArray⟩ : ByteArray).toList = L[i].name := by rw [ByteArray.toList_eq]
        have HN : Hid (∀ W, Below wr.heap.size wr W → Calls Tryz.prog 11 #[.string ⟨L[i].name.toArray⟩] W fun e w' => e = .returned (.bool tN) ∧ Below W.heap.size W w') := Lib.hid fun W _ => by rw [← htN]; exact calls_below (lname_big _ (by rw [← bsz]; exact Nat.le_trans s1 (by omega)) W)
        have HS : Hid (∀ W, Below wr.heap.size wr W → Calls Tryz.prog 12 #[.slice y3 y4 y5, .int .i64 L[i].many] W fun e w' => e = .returned (.bool tS) ∧ Below W.heap.size W w') := Lib.hid fun W hW => by rw [← htS]; exact docsels_any L[i].sels _ _ W (SelSl.below yz hW) s3.1 s4 s5 (HE0.out.below (HBR.out.trans (hW.mono HBR.out.size))) (HT0.out.stays (HBR.out.trans (hW.mono HBR.out.size)))
        have HV : Hid (∀ W, Below wr.heap.size wr W → Calls Tryz.prog 13 #[.slice y0 y1 y2, .func (.func 14) #[] #[]] W fun e w' => e = .returned (.bool tV) ∧ Below W.heap.size W w') := Lib.hid fun W hW => by
          rw [← htV]
          have hE2 : EnvU W := HE0.out.below (HBR.out.trans (hW.mono HBR.out.size))
          have hT2 : EnvT W := HT0.out.stays (HBR.out.trans (hW.mono HBR.out.size))
          exact inp_contains _ #[] dc1_ent (fun v => !inDB v) L[i].vars _ W (InpSl.below yy hW) s2.1 (Lib.hid fun W' k hk ev hv hb => dc1_any _ ev W' hv (s2.2 _ (List.getElem_mem hk)) (hE2.below hb) (hT2.stays hb))
        rw [htN, htS, htV, ← e1, ← show ((L[i].kind.toNat : Int) == 1) = decide (L[i].kind.toNat = 1) from by rw [Bool.eq_iff_iff, beq_iff_eq, decide_eq_true_iff]; omega, ← show ((L[i].kind.toNat : Int) == 2) = decide (L[i].kind.toNat = 2) from by rw [Bool.eq_iff_iff, beq_iff_eq, decide_eq_true_iff]; omega] at hq
        clear htN htS htV e1 yy yz s1 s2 s3 s4 s5 hrow HQ
        generalize (⟨L[i].name.toArray⟩ : ByteArray) = x1 at *
        generalize (L[i].kind.toNat : Int) = kk at *
        generalize L[i].many = mm at *
        obtain ⟨k1, hk1⟩ : ∃ t : Bool, (kk == 1) = t := ⟨_, rfl⟩
        obtain ⟨k2, hk2⟩ : ∃ t : Bool, (kk == 2) = t := ⟨_, rfl⟩
        obtain ⟨zN, hzN⟩ : ∃ t : Bool, (x1.toList == []) = t := ⟨_, rfl⟩
        have hzNe : x1.toList.isEmpty = zN := by rw [← hzN]; cases x1.toList <;> rfl
        have hzNp : zN = true → x1.toList = [] := fun h => by rw [h] at hzN; simpa using hzN
        have hzNn : zN = false → ¬ x1.toList = [] := fun h => by rw [h] at hzN; simpa using hzN
        rw [hk1, hk2, hzNe] at hq
        have HQ2 := Lib.hid hq
        clear hq
        have i1 : (i : Int).toNat = i := by omega
        have i2 : (0 : Int) ≤ (i : Int) := by omega
        have i3 : (i : Int) < (on_ : Int) := by omega
        have pb := lt_of_cell q0
        go_upto_region 5 with fail
        obtain ⟨xb, hxb⟩ : ∃ xb, wr.heap.size = xb := ⟨_, rfl⟩
        obtain ⟨w2, hw2⟩ : ∃ w2, wr.alloc (.cells #[.int .u8 kk, .string x1, .slice y0 y1 y2, .int .i64 mm, .slice y3 y4 y5] 35 (0, 0)) = w2 := ⟨_, rfl⟩
        have HBA : Hid (Below wr.heap.size wr w2) := Lib.hid (by rw [← hw2]; exact (Below.refl _ _).alloc (Nat.le_refl _) _)
        have kb : w2.heap[wr.heap.size]? = some (.cells #[.int .u8 kk, .string x1, .slice y0 y1 y2, .int .i64 mm, .slice y3 y4 y5] 35 (0, 0)) := by rw [← hw2]; exact heap_new _ _ _ rfl
        rw [hxb] at kb
        have MK : Hid (∀ W, Below w2.heap.size w2 W → W.cell? ⟨xb, 0, none⟩ = some (.int .u8 kk) ∧ W.cell? ⟨xb, 1, none⟩ = some (.string x1) ∧ W.cell? ⟨xb, 2, none⟩ = some (.slice y0 y1 y2) ∧ W.cell? ⟨xb, 3, none⟩ = some (.int .i64 mm) ∧ W.cell? ⟨xb, 4, none⟩ = some (.slice y3 y4 y5)) := Lib.hid fun W hW => ⟨(Lib.cell_of_heap ((hW.block _ (heap_lt kb)).trans kb) 0).trans rfl, (Lib.cell_of_heap ((hW.block _ (heap_lt kb)).trans kb) 1).trans rfl, (Lib.cell_of_heap ((hW.block _ (heap_lt kb)).trans kb) 2).trans rfl, (Lib.cell_of_heap ((hW.block _ (heap_lt kb)).trans kb) 3).trans rfl, (Lib.cell_of_heap ((hW.block _ (heap_lt kb)).trans kb) 4).trans rfl⟩
        obtain ⟨d0, d1, d2, d3, d4⟩ := MK.out w2 (Below.refl _ _)
        try rw [hw2]
        try rw [hxb]
        have HBV : Hid (Below w2.heap.size w2 w2) := Lib.hid (Below.refl _ _)
        clear hw2 kb q0 q1 q2 q3 q4 pb
        cases k1 with
        | false =>
          cases k2 with
          | false =>
            cases mv with
            | false =>
              have HF : Hid ((false && (L.drop (i + 1)).all oprB) = Z) := Lib.hid (by rw [← HQ2.out]; rfl)
              have HBN : Hid (Below w1.heap.size w1 _) := Lib.hid (HB.out.trans ((HBA.out.trans (HBV.out.mono HBA.out.size)).mono hz))
              go_wp2_with fail
              go_roundw
              case rel => exact ⟨i + 1, false, by omega, by first | rfl | simp, by go_num, HF, HBN⟩
              case measure => simp [intOf]; omega
            | true =>
              have HF : Hid ((false && (L.drop (i + 1)).all oprB) = Z) := Lib.hid (by rw [← HQ2.out]; rfl)
              have HBN : Hid (Below w1.heap.size w1 _) := Lib.hid (HB.out.trans ((HBA.out.trans (HBV.out.mono HBA.out.size)).mono hz))
              go_wp2_with fail
              go_roundw
              case rel => exact ⟨i + 1, false, by omega, by first | rfl | simp, by go_num, HF, HBN⟩
              case measure => simp [intOf]; omega
          | true =>
            cases mv with
            | false =>
              have HF : Hid ((false && (L.drop (i + 1)).all oprB) = Z) := Lib.hid (by rw [← HQ2.out]; rfl)
              have HBN : Hid (Below w1.heap.size w1 _) := Lib.hid (HB.out.trans ((HBA.out.trans (HBV.out.mono HBA.out.size)).mono hz))
              go_wp2_with fail
              go_roundw
              case rel => exact ⟨i + 1, false, by omega, by first | rfl | simp, by go_num, HF, HBN⟩
              case measure => simp [intOf]; omega
            | true =>
              cases zN with
              | false =>
                have qzN := hzNn rfl
                cases tN with
                | false =>
                  go_wp2_with fail
                  refine (HN.out _ (HBA.out.trans (HBV.out.mono HBA.out.size))).mono ?_; rintro e w5 ⟨rfl, hb⟩
                  have HBV2 : Hid (Below w2.heap.size w2 w5) := Lib.hid (HBV.out.trans (hb.mono HBV.out.size))
                  obtain ⟨d0, d1, d2, d3, d4⟩ := MK.out w5 HBV2.out
                  clear HBV hb
                  have HBV := HBV2
                  clear HBV2
                  have HF : Hid ((false && (L.drop (i + 1)).all oprB) = Z) := Lib.hid (by rw [← HQ2.out]; rfl)
                  have HBN : Hid (Below w1.heap.size w1 _) := Lib.hid (HB.out.trans ((HBA.out.trans (HBV.out.mono HBA.out.size)).mono hz))
                  go_wp2_with fail
                  go_roundw
                  case rel => exact ⟨i + 1, false, by omega, by first | rfl | simp, by go_num, HF, HBN⟩
                  case measure => simp [intOf]; omega
                | true =>
                  go_wp2_with fail
                  refine (HN.out _ (HBA.out.trans (HBV.out.mono HBA.out.size))).mono ?_; rintro e w5 ⟨rfl, hb⟩
                  have HBV2 : Hid (Below w2.heap.size w2 w5) := Lib.hid (HBV.out.trans (hb.mono HBV.out.size))
                  obtain ⟨d0, d1, d2, d3, d4⟩ := MK.out w5 HBV2.out
                  clear HBV hb
                  have HBV := HBV2
                  clear HBV2
                  cases tS with
                  | false =>
                    go_wp2_with fail
                    refine (HS.out _ (HBA.out.trans (HBV.out.mono HBA.out.size))).mono ?_; rintro e w5 ⟨rfl, hb⟩
                    have HBV2 : Hid (Below w2.heap.size w2 w5) := Lib.hid (HBV.out.trans (hb.mono HBV.out.size))
                    obtain ⟨d0, d1, d2, d3, d4⟩ := MK.out w5 HBV2.out
                    clear HBV hb
                    have HBV := HBV2
                    clear HBV2
                    have HF : Hid ((false && (L.drop (i + 1)).all oprB) = Z) := Lib.hid (by rw [← HQ2.out]; rfl)
                    have HBN : Hid (Below w1.heap.size w1 _) := Lib.hid (HB.out.trans ((HBA.out.trans (HBV.out.mono HBA.out.size)).mono hz))
                    go_wp2_with fail
                    go_roundw
                    case rel => exact ⟨i + 1, false, by omega, by first | rfl | simp, by go_num, HF, HBN⟩
                    case measure => simp [intOf]; omega
                  | true =>
                    go_wp2_with fail
                    refine (HS.out _ (HBA.out.trans (HBV.out.mono HBA.out.size))).mono ?_; rintro e w5 ⟨rfl, hb⟩
                    have HBV2 : Hid (Below w2.heap.size w2 w5) := Lib.hid (HBV.out.trans (hb.mono HBV.out.size))
                    obtain ⟨d0, d1, d2, d3, d4⟩ := MK.out w5 HBV2.out
                    clear HBV hb
                    have HBV := HBV2
                    clear HBV2
                    cases tV with
                    | false =>
                      go_wp2_with fail
                      refine (HV.out _ (HBA.out.trans (HBV.out.mono HBA.out.size))).mono ?_; rintro e w5 ⟨rfl, hb⟩
                      have HBV2 : Hid (Below w2.heap.size w2 w5) := Lib.hid (HBV.out.trans (hb.mono HBV.out.size))
                      obtain ⟨d0, d1, d2, d3, d4⟩ := MK.out w5 HBV2.out
                      clear HBV hb
                      have HBV := HBV2
                      clear HBV2
                      have HF : Hid ((true && (L.drop (i + 1)).all oprB) = Z) := Lib.hid (by rw [← HQ2.out]; rfl)
                      have HBN : Hid (Below w1.heap.size w1 _) := Lib.hid (HB.out.trans ((HBA.out.trans (HBV.out.mono HBA.out.size)).mono hz))
                      go_wp2_with fail
                      go_roundw
                      case rel => exact ⟨i + 1, true, by omega, by first | rfl | simp, by go_num, HF, HBN⟩
                      case measure => simp [intOf]; omega
                    | true =>
                      go_wp2_with fail
                      refine (HV.out _ (HBA.out.trans (HBV.out.mono HBA.out.size))).mono ?_; rintro e w5 ⟨rfl, hb⟩
                      have HBV2 : Hid (Below w2.heap.size w2 w5) := Lib.hid (HBV.out.trans (hb.mono HBV.out.size))
                      obtain ⟨d0, d1, d2, d3, d4⟩ := MK.out w5 HBV2.out
                      clear HBV hb
                      have HBV := HBV2
                      clear HBV2
                      have HF : Hid ((false && (L.drop (i + 1)).all oprB) = Z) := Lib.hid (by rw [← HQ2.out]; rfl)
                      have HBN : Hid (Below w1.heap.size w1 _) := Lib.hid (HB.out.trans ((HBA.out.trans (HBV.out.mono HBA.out.size)).mono hz))
                      go_wp2_with fail
                      go_roundw
                      case rel => exact ⟨i + 1, false, by omega, by first | rfl | simp, by go_num, HF, HBN⟩
                      case measure => simp [intOf]; omega
              | true =>
                have qzN := hzNp rfl
                cases tS with
                | false =>
                  go_wp2_with fail
                  refine (HS.out _ (HBA.out.trans (HBV.out.mono HBA.out.size))).mono ?_; rintro e w5 ⟨rfl, hb⟩
                  have HBV2 : Hid (Below w2.heap.size w2 w5) := Lib.hid (HBV.out.trans (hb.mono HBV.out.size))
                  obtain ⟨d0, d1, d2, d3, d4⟩ := MK.out w5 HBV2.out
                  clear HBV hb
                  have HBV := HBV2
                  clear HBV2
                  have HF : Hid ((false && (L.drop (i + 1)).all oprB) = Z) := Lib.hid (by rw [← HQ2.out]; rfl)
                  have HBN : Hid (Below w1.heap.size w1 _) := Lib.hid (HB.out.trans ((HBA.out.trans (HBV.out.mono HBA.out.size)).mono hz))
                  go_wp2_with fail
                  go_roundw
                  case rel => exact ⟨i + 1, false, by omega, by first | rfl | simp, by go_num, HF, HBN⟩
                  case measure => simp [intOf]; omega
                | true =>
                  go_wp2_with fail
                  refine (HS.out _ (HBA.out.trans (HBV.out.mono HBA.out.size))).mono ?_; rintro e w5 ⟨rfl, hb⟩
                  have HBV2 : Hid (Below w2.heap.size w2 w5) := Lib.hid (HBV.out.trans (hb.mono HBV.out.size))
                  obtain ⟨d0, d1, d2, d3, d4⟩ := MK.out w5 HBV2.out
                  clear HBV hb
                  have HBV := HBV2
                  clear HBV2
                  cases tV with
                  | false =>
                    go_wp2_with fail
                    refine (HV.out _ (HBA.out.trans (HBV.out.mono HBA.out.size))).mono ?_; rintro e w5 ⟨rfl, hb⟩
                    have HBV2 : Hid (Below w2.heap.size w2 w5) := Lib.hid (HBV.out.trans (hb.mono HBV.out.size))
                    obtain ⟨d0, d1, d2, d3, d4⟩ := MK.out w5 HBV2.out
                    clear HBV hb
                    have HBV := HBV2
                    clear HBV2
                    have HF : Hid ((true && (L.drop (i + 1)).all oprB) = Z) := Lib.hid (by rw [← HQ2.out]; rfl)
                    have HBN : Hid (Below w1.heap.size w1 _) := Lib.hid (HB.out.trans ((HBA.out.trans (HBV.out.mono HBA.out.size)).mono hz))
                    go_wp2_with fail
                    go_roundw
                    case rel => exact ⟨i + 1, true, by omega, by first | rfl | simp, by go_num, HF, HBN⟩
                    case measure => simp [intOf]; omega
                  | true =>
                    go_wp2_with fail
                    refine (HV.out _ (HBA.out.trans (HBV.out.mono HBA.out.size))).mono ?_; rintro e w5 ⟨rfl, hb⟩
                    have HBV2 : Hid (Below w2.heap.size w2 w5) := Lib.hid (HBV.out.trans (hb.mono HBV.out.size))
                    obtain ⟨d0, d1, d2, d3, d4⟩ := MK.out w5 HBV2.out
                    clear HBV hb
                    have HBV := HBV2
                    clear HBV2
                    have HF : Hid ((false && (L.drop (i + 1)).all oprB) = Z) := Lib.hid (by rw [← HQ2.out]; rfl)
                    have HBN : Hid (Below w1.heap.size w1 _) := Lib.hid (HB.out.trans ((HBA.out.trans (HBV.out.mono HBA.out.size)).mono hz))
                    go_wp2_with fail
                    go_roundw
                    case rel => exact ⟨i + 1, false, by omega, by first | rfl | simp, by go_num, HF, HBN⟩
                    case measure => simp [intOf]; omega
        | true =>
          cases mv with
          | false =>
            have HF : Hid ((false && (L.drop (i + 1)).all oprB) = Z) := Lib.hid (by rw [← HQ2.out]; rfl)
            have HBN : Hid (Below w1.heap.size w1 _) := Lib.hid (HB.out.trans ((HBA.out.trans (HBV.out.mono HBA.out.size)).mono hz))
            go_wp2_with fail
            go_roundw
            case rel => exact ⟨i + 1, false, by omega, by first | rfl | simp, by go_num, HF, HBN⟩
            case measure => simp [intOf]; omega
          | true =>
            cases zN with
            | false =>
              have qzN := hzNn rfl
              cases tN with
              | false =>
                go_wp2_with fail
                refine (HN.out _ (HBA.out.trans (HBV.out.mono HBA.out.size))).mono ?_; rintro e w5 ⟨rfl, hb⟩
                have HBV2 : Hid (Below w2.heap.size w2 w5) := Lib.hid (HBV.out.trans (hb.mono HBV.out.size))
                obtain ⟨d0, d1, d2, d3, d4⟩ := MK.out w5 HBV2.out
                clear HBV hb
                have HBV := HBV2
                clear HBV2
                have HF : Hid ((false && (L.drop (i + 1)).all oprB) = Z) := Lib.hid (by rw [← HQ2.out]; rfl)
                have HBN : Hid (Below w1.heap.size w1 _) := Lib.hid (HB.out.trans ((HBA.out.trans (HBV.out.mono HBA.out.size)).mono hz))
                go_wp2_with fail
                go_roundw
                case rel => exact ⟨i + 1, false, by omega, by first | rfl | simp, by go_num, HF, HBN⟩
                case measure => simp [intOf]; omega
              | true =>
                go_wp2_with fail
                refine (HN.out _ (HBA.out.trans (HBV.out.mono HBA.out.size))).mono ?_; rintro e w5 ⟨rfl, hb⟩
                have HBV2 : Hid (Below w2.heap.size w2 w5) := Lib.hid (HBV.out.trans (hb.mono HBV.out.size))
                obtain ⟨d0, d1, d2, d3, d4⟩ := MK.out w5 HBV2.out
                clear HBV hb
                have HBV := HBV2
                clear HBV2
                cases tS with
                | false =>
                  go_wp2_with fail
                  refine (HS.out _ (HBA.out.trans (HBV.out.mono HBA.out.size))).mono ?_; rintro e w5 ⟨rfl, hb⟩
                  have HBV2 : Hid (Below w2.heap.size w2 w5) := Lib.hid (HBV.out.trans (hb.mono HBV.out.size))
                  obtain ⟨d0, d1, d2, d3, d4⟩ := MK.out w5 HBV2.out
                  clear HBV hb
                  have HBV := HBV2
                  clear HBV2
                  have HF : Hid ((false && (L.drop (i + 1)).all oprB) = Z) := Lib.hid (by rw [← HQ2.out]; rfl)
                  have HBN : Hid (Below w1.heap.size w1 _) := Lib.hid (HB.out.trans ((HBA.out.trans (HBV.out.mono HBA.out.size)).mono hz))
                  go_wp2_with fail
                  go_roundw
                  case rel => exact ⟨i + 1, false, by omega, by first | rfl | simp, by go_num, HF, HBN⟩
                  case measure => simp [intOf]; omega
                | true =>
                  go_wp2_with fail
                  refine (HS.out _ (HBA.out.trans (HBV.out.mono HBA.out.size))).mono ?_; rintro e w5 ⟨rfl, hb⟩
                  have HBV2 : Hid (Below w2.heap.size w2 w5) := Lib.hid (HBV.out.trans (hb.mono HBV.out.size))
                  obtain ⟨d0, d1, d2, d3, d4⟩ := MK.out w5 HBV2.out
                  clear HBV hb
                  have HBV := HBV2
                  clear HBV2
                  cases tV with
                  | false =>
                    go_wp2_with fail
                    refine (HV.out _ (HBA.out.trans (HBV.out.mono HBA.out.size))).mono ?_; rintro e w5 ⟨rfl, hb⟩
                    have HBV2 : Hid (Below w2.heap.size w2 w5) := Lib.hid (HBV.out.trans (hb.mono HBV.out.size))
                    obtain ⟨d0, d1, d2, d3, d4⟩ := MK.out w5 HBV2.out
                    clear HBV hb
                    have HBV := HBV2
                    clear HBV2
                    have HF : Hid ((true && (L.drop (i + 1)).all oprB) = Z) := Lib.hid (by rw [← HQ2.out]; rfl)
                    have HBN : Hid (Below w1.heap.size w1 _) := Lib.hid (HB.out.trans ((HBA.out.trans (HBV.out.mono HBA.out.size)).mono hz))
                    go_wp2_with fail
                    go_roundw
                    case rel => exact ⟨i + 1, true, by omega, by first | rfl | simp, by go_num, HF, HBN⟩
                    case measure => simp [intOf]; omega
                  | true =>
                    go_wp2_with fail
                    refine (HV.out _ (HBA.out.trans (HBV.out.mono HBA.out.size))).mono ?_; rintro e w5 ⟨rfl, hb⟩
                    have HBV2 : Hid (Below w2.heap.size w2 w5) := Lib.hid (HBV.out.trans (hb.mono HBV.out.size))
                    obtain ⟨d0, d1, d2, d3, d4⟩ := MK.out w5 HBV2.out
                    clear HBV hb
                    have HBV := HBV2
                    clear HBV2
                    have HF : Hid ((false && (L.drop (i + 1)).all oprB) = Z) := Lib.hid (by rw [← HQ2.out]; rfl)
                    have HBN : Hid (Below w1.heap.size w1 _) := Lib.hid (HB.out.trans ((HBA.out.trans (HBV.out.mono HBA.out.size)).mono hz))
                    go_wp2_with fail
                    go_roundw
                    case rel => exact ⟨i + 1, false, by omega, by first | rfl | simp, by go_num, HF, HBN⟩
                    case measure => simp [intOf]; omega
            | true =>
              have qzN := hzNp rfl
              cases tS with
              | false =>
                go_wp2_with fail
                refine (HS.out _ (HBA.out.trans (HBV.out.mono HBA.out.size))).mono ?_; rintro e w5 ⟨rfl, hb⟩
                have HBV2 : Hid (Below w2.heap.size w2 w5) := Lib.hid (HBV.out.trans (hb.mono HBV.out.size))
                obtain ⟨d0, d1, d2, d3, d4⟩ := MK.out w5 HBV2.out
                clear HBV hb
                have HBV := HBV2
                clear HBV2
                have HF : Hid ((false && (L.drop (i + 1)).all oprB) = Z) := Lib.hid (by rw [← HQ2.out]; rfl)
                have HBN : Hid (Below w1.heap.size w1 _) := Lib.hid (HB.out.trans ((HBA.out.trans (HBV.out.mono HBA.out.size)).mono hz))
                go_wp2_with fail
                go_roundw
                case rel => exact ⟨i + 1, false, by omega, by first | rfl | simp, by go_num, HF, HBN⟩
                case measure => simp [intOf]; omega
              | true =>
                go_wp2_with fail
                refine (HS.out _ (HBA.out.trans (HBV.out.mono HBA.out.size))).mono ?_; rintro e w5 ⟨rfl, hb⟩
                have HBV2 : Hid (Below w2.heap.size w2 w5) := Lib.hid (HBV.out.trans (hb.mono HBV.out.size))
                obtain ⟨d0, d1, d2, d3, d4⟩ := MK.out w5 HBV2.out
                clear HBV hb
                have HBV := HBV2
                clear HBV2
                cases tV with
                | false =>
                  go_wp2_with fail
                  refine (HV.out _ (HBA.out.trans (HBV.out.mono HBA.out.size))).mono ?_; rintro e w5 ⟨rfl, hb⟩
                  have HBV2 : Hid (Below w2.heap.size w2 w5) := Lib.hid (HBV.out.trans (hb.mono HBV.out.size))
                  obtain ⟨d0, d1, d2, d3, d4⟩ := MK.out w5 HBV2.out
                  clear HBV hb
                  have HBV := HBV2
                  clear HBV2
                  have HF : Hid ((true && (L.drop (i + 1)).all oprB) = Z) := Lib.hid (by rw [← HQ2.out]; rfl)
                  have HBN : Hid (Below w1.heap.size w1 _) := Lib.hid (HB.out.trans ((HBA.out.trans (HBV.out.mono HBA.out.size)).mono hz))
                  go_wp2_with fail
                  go_roundw
                  case rel => exact ⟨i + 1, true, by omega, by first | rfl | simp, by go_num, HF, HBN⟩
                  case measure => simp [intOf]; omega
                | true =>
                  go_wp2_with fail
                  refine (HV.out _ (HBA.out.trans (HBV.out.mono HBA.out.size))).mono ?_; rintro e w5 ⟨rfl, hb⟩
                  have HBV2 : Hid (Below w2.heap.size w2 w5) := Lib.hid (HBV.out.trans (hb.mono HBV.out.size))
                  obtain ⟨d0, d1, d2, d3, d4⟩ := MK.out w5 HBV2.out
                  clear HBV hb
                  have HBV := HBV2
                  clear HBV2
                  have HF : Hid ((false && (L.drop (i + 1)).all oprB) = Z) := Lib.hid (by rw [← HQ2.out]; rfl)
                  have HBN : Hid (Below w1.heap.size w1 _) := Lib.hid (HB.out.trans ((HBA.out.trans (HBV.out.mono HBA.out.size)).mono hz))
                  go_wp2_with fail
                  go_roundw
                  case rel => exact ⟨i + 1, false, by omega, by first | rfl | simp, by go_num, HF, HBN⟩
                  case measure => simp [intOf]; omega
    · obtain ⟨g0, g1⟩ := MD.out wr HB.out
      have HZ3 : Hid ((mv && (M.drop 0).all frgB) = Z2) := Lib.hid (by
        have h := HQ.out
        rw [List.drop_of_length_le (by have := HNO.out; omega)] at h
        have h2 : mv = Z := by rw [← h]; simp
        rw [h2]; exact HZ2.out)
      clear HZ2 HQ
      have i3 : ¬ (i : Int) < (on_ : Int) := by omega
      go_wp2_with fail
      go_loopw [3, 63] (fun mv jv wr2 => ∃ (j : Nat) (mv' : Bool), j ≤ fn_ ∧ mv = .bool mv' ∧ jv = .int .i64 (j : Int) ∧ Hid ((mv' && (M.drop j).all frgB) = Z2) ∧ Hid (Below w1.heap.size w1 wr2)) (fun mv jv wr2 => fn_ - (intOf jv).toNat)
      case atStart => exact ⟨0, mv, Nat.zero_le _, rfl, rfl, HZ3, HB⟩
      case round =>
        clear HZ3 g0 g1 HB HBR hz
        rename_i wr' wr _
        obtain ⟨j, mv, hj, rfl, rfl, HQ, HB⟩ := hrel
        have hz := HB.out.size
        have HBR := Lib.hid (HBD.out.trans (HB.out.mono HBD.out.size))
        by_cases hjn : j < fn_
        · as_aux_lemma =>
            have hil : j < M.length := by have := HNF.out; omega
            obtain ⟨b, off, rfl, hrow⟩ := HFR.out.2 (by omega)
            obtain ⟨y0, y1, y2, q0, q1, q2, q3, yy⟩ := Frg_at (RowG.below hrow fun _ _ h => FrgE.below h HBR.out) j hil
            obtain ⟨⟨s1, s2, s3⟩, s4, s5⟩ := HSF.out M[j] (List.getElem_mem hil)
            have hq := HQ.out
            rw [List.drop_eq_getElem_cons hil, List.all_cons] at hq
            unfold frgB at hq
            obtain ⟨tN, htN⟩ : ∃ t, nameB M[j].name = t := ⟨_, rfl⟩
            obtain ⟨tO, htO⟩ : ∃ t, nameB M[j].on = t := ⟨_, rfl⟩
            obtain ⟨tS, htS⟩ : ∃ t, selsB M[j].sels M[j].many = t := ⟨_, rfl⟩
            have e1 : (⟨M[j].name.toArray⟩ : ByteArray).toList = M[j].name := by rw [ByteArray.toList_eq]
            have HN : Hid (∀ W, Below wr.heap.size wr W → Calls Tryz.prog 11 #[.string ⟨M[j].name.toArray⟩] W fun e w' => e = .returned (.bool tN) ∧ Below W.heap.size W w') := Lib.hid fun W _ => by rw [← htN]; exact calls_below (lname_big _ (by rw [← bsz]; exact s1) W)
            have HO : Hid (∀ W, Below wr.heap.size wr W → Calls Tryz.prog 11 #[.string ⟨M[j].on.toArray⟩] W fun e w' => e = .returned (.bool tO) ∧ Below W.heap.size W w') := Lib.hid fun W _ => by rw [← htO]; exact calls_below (lname_big _ (by rw [← bsz]; exact s2) W)
            have HS : Hid (∀ W, Below wr.heap.size wr W → Calls Tryz.prog 12 #[.slice y0 y1 y2, .int .i64 M[j].many] W fun e w' => e = .returned (.bool tS) ∧ Below W.heap.size W w') := Lib.hid fun W hW => by rw [← htS]; exact docsels_any M[j].sels _ _ W (SelSl.below yy hW) s3.1 s4 s5 (HE0.out.below (HBR.out.trans (hW.mono HBR.out.size))) (HT0.out.stays (HBR.out.trans (hW.mono HBR.out.size)))
            rw [htN, htO, htS, ← e1] at hq
            clear htN htO htS e1 yy s1 s2 s3 s4 s5 hrow HQ
            generalize (⟨M[j].name.toArray⟩ : ByteArray) = x1 at *
            generalize (⟨M[j].on.toArray⟩ : ByteArray) = x2 at *
            generalize M[j].many = mm at *
            obtain ⟨on, hon⟩ : ∃ t : Bool, (x1.toList == [111, 110]) = t := ⟨_, rfl⟩
            have hone : (x1.toList != [111, 110]) = !on := by rw [← hon]; rfl
            have honp : on = true → x1.toList = [111, 110] := fun h => by rw [h] at hon; exact beq_iff_eq.1 hon
            have honn : on = false → ¬ x1.toList = [111, 110] := fun h => by rw [h] at hon; exact beq_eq_false_iff_ne.1 hon
            rw [hon] at hq
            have HQ2 := Lib.hid hq
            clear hq
            have i1 : (j : Int).toNat = j := by omega
            have i2 : (0 : Int) ≤ (j : Int) := by omega
            have i3 : (j : Int) < (fn_ : Int) := by omega
            have pb := lt_of_cell q0
            go_upto_region 11 with fail
            obtain ⟨xb, hxb⟩ : ∃ xb, wr.heap.size = xb := ⟨_, rfl⟩
            obtain ⟨w2, hw2⟩ : ∃ w2, wr.alloc (.cells #[.string x1, .string x2, .int .i64 mm, .slice y0 y1 y2] 38 (0, 0)) = w2 := ⟨_, rfl⟩
            have HBA : Hid (Below wr.heap.size wr w2) := Lib.hid (by rw [← hw2]; exact (Below.refl _ _).alloc (Nat.le_refl _) _)
            have kb : w2.heap[wr.heap.size]? = some (.cells #[.string x1, .string x2, .int .i64 mm, .slice y0 y1 y2] 38 (0, 0)) := by rw [← hw2]; exact heap_new _ _ _ rfl
            rw [hxb] at kb
            have MK : Hid (∀ W, Below w2.heap.size w2 W → W.cell? ⟨xb, 0, none⟩ = some (.string x1) ∧ W.cell? ⟨xb, 1, none⟩ = some (.string x2) ∧ W.cell? ⟨xb, 2, none⟩ = some (.int .i64 mm) ∧ W.cell? ⟨xb, 3, none⟩ = some (.slice y0 y1 y2)) := Lib.hid fun W hW => ⟨(Lib.cell_of_heap ((hW.block _ (heap_lt kb)).trans kb) 0).trans rfl, (Lib.cell_of_heap ((hW.block _ (heap_lt kb)).trans kb) 1).trans rfl, (Lib.cell_of_heap ((hW.block _ (heap_lt kb)).trans kb) 2).trans rfl, (Lib.cell_of_heap ((hW.block _ (heap_lt kb)).trans kb) 3).trans rfl⟩
            obtain ⟨d0, d1, d2, d3⟩ := MK.out w2 (Below.refl _ _)
            try rw [hw2]
            try rw [hxb]
            have HBV : Hid (Below w2.heap.size w2 w2) := Lib.hid (Below.refl _ _)
            clear hw2 kb q0 q1 q2 q3 pb
            cases mv with
            | false =>
              have HF : Hid ((false && (M.drop (j + 1)).all frgB) = Z2) := Lib.hid (by rw [← HQ2.out]; rfl)
              have HBN : Hid (Below w1.heap.size w1 _) := Lib.hid (HB.out.trans ((HBA.out.trans (HBV.out.mono HBA.out.size)).mono hz))
              go_wp2_with fail
              go_roundw
              case rel => exact ⟨j + 1, false, by omega, by first | rfl | simp, by go_num, HF, HBN⟩
              case measure => simp [intOf]; omega
            | true =>
              cases tN with
              | false =>
                go_wp2_with fail
                refine (HN.out _ (HBA.out.trans (HBV.out.mono HBA.out.size))).mono ?_; rintro e w5 ⟨rfl, hb⟩
                have HBV2 : Hid (Below w2.heap.size w2 w5) := Lib.hid (HBV.out.trans (hb.mono HBV.out.size))
                obtain ⟨d0, d1, d2, d3⟩ := MK.out w5 HBV2.out
                clear HBV hb
                have HBV := HBV2
                clear HBV2
                have HF : Hid ((false && (M.drop (j + 1)).all frgB) = Z2) := Lib.hid (by rw [← HQ2.out]; rfl)
                have HBN : Hid (Below w1.heap.size w1 _) := Lib.hid (HB.out.trans ((HBA.out.trans (HBV.out.mono HBA.out.size)).mono hz))
                go_wp2_with fail
                go_roundw
                case rel => exact ⟨j + 1, false, by omega, by first | rfl | simp, by go_num, HF, HBN⟩
                case measure => simp [intOf]; omega
              | true =>
                go_wp2_with fail
                refine (HN.out _ (HBA.out.trans (HBV.out.mono HBA.out.size))).mono ?_; rintro e w5 ⟨rfl, hb⟩
                have HBV2 : Hid (Below w2.heap.size w2 w5) := Lib.hid (HBV.out.trans (hb.mono HBV.out.size))
                obtain ⟨d0, d1, d2, d3⟩ := MK.out w5 HBV2.out
                clear HBV hb
                have HBV := HBV2
                clear HBV2
                cases on with
                | false =>
                  have qon := honn rfl
                  cases tO with
                  | false =>
                    go_wp2_with fail
                    refine (HO.out _ (HBA.out.trans (HBV.out.mono HBA.out.size))).mono ?_; rintro e w5 ⟨rfl, hb⟩
                    have HBV2 : Hid (Below w2.heap.size w2 w5) := Lib.hid (HBV.out.trans (hb.mono HBV.out.size))
                    obtain ⟨d0, d1, d2, d3⟩ := MK.out w5 HBV2.out
                    clear HBV hb
                    have HBV := HBV2
                    clear HBV2
                    have HF : Hid ((false && (M.drop (j + 1)).all frgB) = Z2) := Lib.hid (by rw [← HQ2.out]; rfl)
                    have HBN : Hid (Below w1.heap.size w1 _) := Lib.hid (HB.out.trans ((HBA.out.trans (HBV.out.mono HBA.out.size)).mono hz))
                    go_wp2_with fail
                    go_roundw
                    case rel => exact ⟨j + 1, false, by omega, by first | rfl | simp, by go_num, HF, HBN⟩
                    case measure => simp [intOf]; omega
                  | true =>
                    go_wp2_with fail
                    refine (HO.out _ (HBA.out.trans (HBV.out.mono HBA.out.size))).mono ?_; rintro e w5 ⟨rfl, hb⟩
                    have HBV2 : Hid (Below w2.heap.size w2 w5) := Lib.hid (HBV.out.trans (hb.mono HBV.out.size))
                    obtain ⟨d0, d1, d2, d3⟩ := MK.out w5 HBV2.out
                    clear HBV hb
                    have HBV := HBV2
                    clear HBV2
                    cases tS with
                    | false =>
                      go_wp2_with fail
                      refine (HS.out _ (HBA.out.trans (HBV.out.mono HBA.out.size))).mono ?_; rintro e w5 ⟨rfl, hb⟩
                      have HBV2 : Hid (Below w2.heap.size w2 w5) := Lib.hid (HBV.out.trans (hb.mono HBV.out.size))
                      obtain ⟨d0, d1, d2, d3⟩ := MK.out w5 HBV2.out
                      clear HBV hb
                      have HBV := HBV2
                      clear HBV2
                      have HF : Hid ((false && (M.drop (j + 1)).all frgB) = Z2) := Lib.hid (by rw [← HQ2.out]; rfl)
                      have HBN : Hid (Below w1.heap.size w1 _) := Lib.hid (HB.out.trans ((HBA.out.trans (HBV.out.mono HBA.out.size)).mono hz))
                      go_wp2_with fail
                      go_roundw
                      case rel => exact ⟨j + 1, false, by omega, by first | rfl | simp, by go_num, HF, HBN⟩
                      case measure => simp [intOf]; omega
                    | true =>
                      go_wp2_with fail
                      refine (HS.out _ (HBA.out.trans (HBV.out.mono HBA.out.size))).mono ?_; rintro e w5 ⟨rfl, hb⟩
                      have HBV2 : Hid (Below w2.heap.size w2 w5) := Lib.hid (HBV.out.trans (hb.mono HBV.out.size))
                      obtain ⟨d0, d1, d2, d3⟩ := MK.out w5 HBV2.out
                      clear HBV hb
                      have HBV := HBV2
                      clear HBV2
                      have HF : Hid ((true && (M.drop (j + 1)).all frgB) = Z2) := Lib.hid (by rw [← HQ2.out]; rfl)
                      have HBN : Hid (Below w1.heap.size w1 _) := Lib.hid (HB.out.trans ((HBA.out.trans (HBV.out.mono HBA.out.size)).mono hz))
                      go_wp2_with fail
                      go_roundw
                      case rel => exact ⟨j + 1, true, by omega, by first | rfl | simp, by go_num, HF, HBN⟩
                      case measure => simp [intOf]; omega
                | true =>
                  have qon := honp rfl
                  have HF : Hid ((false && (M.drop (j + 1)).all frgB) = Z2) := Lib.hid (by rw [← HQ2.out]; rfl)
                  have HBN : Hid (Below w1.heap.size w1 _) := Lib.hid (HB.out.trans ((HBA.out.trans (HBV.out.mono HBA.out.size)).mono hz))
                  go_wp2_with fail
                  go_roundw
                  case rel => exact ⟨j + 1, false, by omega, by first | rfl | simp, by go_num, HF, HBN⟩
                  case measure => simp [intOf]; omega
        · have HF : Hid (mv = Z2) := Lib.hid (by
            have h := HQ.out
            rw [List.drop_of_length_le (by have := HNF.out; omega)] at h
            rw [← h]; simp)
          clear HQ
          have i3 : ¬ (j : Int) < (fn_ : Int) := by omega
          cases mv with
          | true =>
            go_wp2_with fail
            go_ret
            exact ⟨by rw [← HF.out]; rfl, HBR.out⟩
          | false =>
            go_wp2_with fail
            go_ret
            exact ⟨by rw [← HF.out]; rfl, HBR.out⟩
theorem dcheck_any (x : DocD) (v : Value) (w : World) (hv : DocV v x w) (hl : x.ops.length ≤ 100000) (hm : x.frags.length ≤ 100000) (hso : ∀ y ∈ x.ops, OprRm y) (hsf : ∀ y ∈ x.frags, FrgRm y) (hE : EnvU w) (hT : EnvT w) :
    Calls Tryz.prog 5 #[v] w fun e w' => e = .returned (.int .i64 (cond (docB x) 0 8)) ∧ Below w.heap.size w w' := by
  obtain ⟨_, _, _, _, _, _, rfl, h1, h2⟩ := hv
  exact dcheck_go x.ops x.frags _ _ _ _ _ _ w (oprAt_of h1) (frgAt_of h2) hl hm hso hsf hE hT
end Go.Proofs.YtbejhdhhkpllfaaGreatDoor
