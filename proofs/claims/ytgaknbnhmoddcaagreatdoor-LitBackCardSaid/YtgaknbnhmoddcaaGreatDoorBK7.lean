/- Walks and plain laws of this proof, joined from smaller texts (7). -/
import Derived.ProofKit
import Derived.OpenShut
import Derived.Lib.SmallJoins
import Derived.Deep.Slices
import Derived.Deep.Fields
import Derived.ChangeSame
import Derived.Test.YtgaknbnhmoddcaaGreatDoorRows
import Derived.Below
import Derived.Test.YtgaknbnhmoddcaaGreatDoorBK6
set_option linter.unusedSimpArgs false
set_option linter.unusedVariables false
namespace Go.Proofs.YtgaknbnhmoddcaaGreatDoor
open Go.RowKit
theorem tokK_posV : ∀ (d : Nat) (V : List Cel), 0 < V.length → 0 < (tokK d V).length
  | _, [], h => by simp at h
  | 0, c :: r, _ => by
    rw [tokK_zero, headK_cons]
    split
    · simp
    · unfold litK; repeat' split
      all_goals simp
  | d + 1, c :: r, _ => by
    rw [tokK_more, headK_cons]
    split
    · simp
    · unfold litK; repeat' split
      all_goals simp
theorem maxLen_le {n : Nat} (h : n ≤ maxLen) : n ≤ 9223372036854775807 := by unfold maxLen at h; omega
theorem argB_z {A : List (List UInt8 × List Cel)} (h : ArgB A) : ArgsZ A := ⟨maxLen_le h.1, fun x hx => ⟨maxLen_le (h.2 x hx).1, maxLen_le (h.2 x hx).2.1, fun c hc => ⟨maxLen_le ((h.2 x hx).2.2 c hc).1, maxLen_le ((h.2 x hx).2.2 c hc).2.1⟩⟩⟩
theorem tx_back {L M : List Tok} (h1 : L.length ≤ 90000) (h2 : TxS L) (h3 : M.length ≤ 300) (h4 : TxS M) : (L ++ M).length ≤ 100000 ∧ ∀ t ∈ L ++ M, t.text.length ≤ 100000 := ⟨by rw [List.length_append]; omega, h2.app h4⟩
theorem ite8 {b : Bool} (h : (if b = true then (0 : Int) else 8) = 0) : b = true := by
  cases b with
  | true => rfl
  | false => exact absurd h (by decide)
set_option maxRecDepth 100000 in
set_option maxHeartbeats 4000000 in
theorem litback_walk (V : List Cel) (vu : Value) (w : World) (sv : CelSl vu V w) (lv : V.length ≤ maxLen ∧ ∀ t ∈ V, t.name.length ≤ maxLen ∧ t.text.length ≤ maxLen ∧ R t.num ∧ R t.many)
    (rf : ByteArray × List UInt8) (tv : Value) (sr : ∃ u, tv = .agg #[.string rf.1, u] ∧ BSl u rf.2 w) (lr : rf.1.size ≤ maxLen ∧ rf.2.length ≤ maxLen)
    (A : List (List UInt8 × List Cel)) (au : Value) (sa : ArgSl au A w) (la : ArgB A) (D : List (List UInt8 × List (List UInt8 × List Cel))) (du : Value) (sd : DirSl du D w) (ld : D.length ≤ maxLen ∧ ∀ t ∈ D, t.1.length ≤ maxLen ∧ ArgB t.2)
    (M : List Tok) (mu : Value) (sm : TokSl mu M w) (lm : M.length ≤ maxLen ∧ ∀ t ∈ M, t.text.length ≤ maxLen) (he : EnvU w ∧ Env w ∧ EnvT w) :
    Calls Tryz.prog 6 #[vu, tv, au, du, mu] w fun e w' => e = .returned (.bool true) ∧ Below w.heap.size w w' := by
  obtain ⟨hU, hE, hT⟩ := he
  obtain ⟨nm, ws⟩ := rf
  obtain ⟨u, rfl, hu⟩ := sr
  simp only [] at hu lr ⊢
  obtain ⟨ta, tc, rfl⟩ := hu.form
  have hsm := sm
  obtain ⟨ma, mc, rfl⟩ := toksl_len sm
  have H0 : Hid (∀ W, Below w.heap.size w W → Calls Tryz.prog 29 #[] W fun e w' => e = .returned (.bool true) ∧ Below W.heap.size W w') := Lib.hid fun W hW => lalive18q W (hU.below hW) (hE.below hW (Nat.le_refl _))
  have HG1 : Hid (∀ W, Below w.heap.size w W → Calls Tryz.prog 7 #[vu, .int .i64 100] W fun e w' => e = .returned (.bool (greatV V 100)) ∧ W = w') := Lib.hid fun W hW => rgreat03_any V vu 100 lv.1 (by omega) W (sv.below hW) (fun c hc => ⟨(lv.2 c hc).1, (lv.2 c hc).2.1⟩)
  have HG2 : Hid (∀ W, Below w.heap.size w W → Calls Tryz.prog 8 #[au] W fun e w' => e = .returned (.bool (greatAB A)) ∧ W = w') := Lib.hid fun W hW => greatargs_any A au (maxLen_le la.1) W (ArgSl.below sa hW) (argB_z la).2
  have HG3 : Hid (∀ W, Below w.heap.size w W → Calls Tryz.prog 9 #[du] W fun e w' => e = .returned (.bool (greatDB D)) ∧ W = w') := Lib.hid fun W hW => greatdirs_any D du (maxLen_le ld.1) W (DirSl.below sd hW) fun x hx => ⟨maxLen_le (ld.2 x hx).1, argB_z (ld.2 x hx).2⟩
  have HG4 : Hid (∀ W, Below w.heap.size w W → Calls Tryz.prog 31 #[.slice ma M.length mc] W fun e w' => e = .returned (.bool (greatB M)) ∧ W = w') := Lib.hid fun W hW => by
    rcases hsm.below hW with ⟨a2, c2, e, e2, _⟩ | ⟨b, off, c2, e, hr⟩
    · injection e with e1 e3 e4
      subst e2
      exact great_none ma mc W
    · injection e with e1 e3 e4
      subst e1
      exact great_any M b off mc (maxLen_le lm.1) W hr fun t ht => maxLen_le (lm.2 t ht)
  cases hgr : (greatV V 100 || decide ((300 : Int) < (nm.size : Int)) || decide ((20 : Int) < (ws.length : Int)) || greatAB A || greatDB D || greatB M) with
  | true => exact lb_great nm ta _ tc vu au du _ w _ _ _ _ hgr H0 HG1 HG2 HG3 HG4
  | false =>
  simp only [Bool.or_eq_false_iff, decide_eq_false_iff_not] at hgr
  obtain ⟨⟨⟨⟨⟨g1, hn⟩, ht⟩, g2⟩, g3⟩, g4⟩ := hgr
  rw [g1] at HG1
  rw [g2] at HG2
  rw [g3] at HG3
  rw [g4] at HG4
  -- bounds
  obtain ⟨v1, v2⟩ := greatV_parts g1
  have hVs : CelS V := fun c hc => by
    obtain ⟨q1, q2⟩ := v2 c hc
    exact ⟨by omega, by omega, (lv.2 c hc).2.2.1⟩
  have hVsm : SmallV V := ⟨by omega, fun c hc => by
    obtain ⟨q1, q2⟩ := v2 c hc
    exact ⟨by omega, by omega, (lv.2 c hc).2.2⟩⟩
  obtain ⟨a1, a2, a3, a4⟩ := args_sm la g2
  obtain ⟨d1, d2⟩ := greatDB_parts g3
  have dA : ∀ x ∈ D, ArgsSm x.2 ∧ roomA x.2 ≤ 5000 ∧ x.2.length ≤ 20 ∧ (∀ y ∈ x.2, y.1.length ≤ 100000 ∧ CelS y.2 ∧ NumB y.2 ∧ y.2.length ≤ 60) := fun x hx => args_sm (ld.2 x hx).2 (d2 x hx).1
  have dR : roomD D ≤ 50000 := by
    have := roomD_le D fun x hx => (d2 x hx).1
    omega
  obtain ⟨m1, m2⟩ := greatB_parts g4
  obtain ⟨M2, hM2⟩ : ∃ M2, M2 = if goB M then [] else M := ⟨_, rfl⟩
  obtain ⟨n1, n2, n3⟩ := goB_nogo hM2
  have hM2l : M2.length ≤ 200 ∧ TxS M2 := by
    rw [hM2]
    split
    · exact ⟨by simp, TxS.nil⟩
    · exact ⟨m1, m2⟩
  have hM3 : (M2 ++ [tok0]).length ≤ 300 ∧ TxS (M2 ++ [tok0]) := ⟨by rw [List.length_append]; simp; omega, hM2l.2.app (TxS.cons (by simp [tok0]) TxS.nil)⟩
  have t1 : (toksL V).length ≤ 90000 ∧ TxS (toksL V) := by
    unfold toksL
    split
    · rename_i h
      refine ⟨?_, tokK_txt 16 V hVs⟩
      have hm : mayB V = true := by unfold litB at h; simp only [Bool.and_eq_true] at h; exact h.1
      have := tokK_len 16 V _ (mayB_parts hm).2.2
      omega
    · exact ⟨by simp, TxS.nil⟩
  have t2 : (ttL nm.data.toList ws).length ≤ 90000 ∧ TxS (ttL nm.data.toList ws) := by
    unfold ttL
    split
    · refine ⟨?_, typK_txt _ (by rw [Array.length_toList]; have : nm.data.size = nm.size := rfl; omega) ws⟩
      have := typK_len nm.data.toList ws
      omega
    · exact ⟨by simp, TxS.nil⟩
  have t3 : (atoksL A).length ≤ 90000 ∧ TxS (atoksL A) := by
    unfold atoksL
    split
    · rename_i h
      refine ⟨?_, argsK_txt A fun x hx => ⟨(a4 x hx).1, (a4 x hx).2.1⟩⟩
      have := argsK_le A (namedB_ok [] A h fun x hx => (a1.2 x hx).2)
      omega
    · exact ⟨by simp, TxS.nil⟩
  have t4 : (dtoksL D).length ≤ 90000 ∧ TxS (dtoksL D) := by
    unfold dtoksL
    split
    · rename_i h
      refine ⟨?_, TxS.flat D fun x hx => dirK_txt x (by have := (d2 x hx).2; omega) fun y hy => ⟨((dA x hx).2.2.2 y hy).1, ((dA x hx).2.2.2 y hy).2.1⟩⟩
      have key : ∀ E : List (List UInt8 × List (List UInt8 × List Cel)), (∀ x ∈ E, x ∈ D) → (E.flatMap dirK).length ≤ 5010 * E.length := by
        intro E
        induction E with
        | nil => intro _; simp
        | cons x r ih =>
          intro hE
          have hx := hE x (by simp)
          have h1 := ih fun y hy => hE y (by simp [hy])
          have h2 : dirB x = true := List.all_eq_true.1 h x hx
          unfold dirB at h2
          simp only [Bool.and_eq_true] at h2
          have h3 := argsK_le x.2 (namedB_ok [] x.2 h2.2 fun y hy => ((dA x hx).1.2 y hy).2)
          have h4 := (dA x hx).2.1
          rw [List.flatMap_cons, List.length_append, List.length_cons]
          have h5 : (dirK x).length = 2 + (argsK x.2).length := by simp [dirK]; omega
          omega
      have := key D fun x hx => hx
      omega
    · exact ⟨by simp, TxS.nil⟩
  refine lb_go nm ta ws.length tc vu au du ma M.length mc w (toksE V) (ttE nm.data.toList ws) (atoksE A) (dtoksE D) (toksL V) (ttL nm.data.toList ws) (atoksL A) (dtoksL D) M M2 H0 HG1 hn ht HG2 HG3 HG4 rfl (Lib.hid hsm) (Lib.hid hM2) (Lib.hid ⟨m1, t1.1, t2.1, t3.1, t4.1⟩)
    ?T1 ?N1 ?V1 ?T2 ?V2 ?T3 ?V3 ?T4 ?V4
  case T1 => exact Lib.hid fun W hW => tokens_any V vu W (sv.below hW) hVsm (hU.below hW) (hT.stays hW)
  case N1 =>
    refine Lib.hid fun h => ?_
    unfold toksE at h
    unfold toksL
    split at h
    · exact absurd rfl h
    · rename_i h2
      rw [if_neg h2]
  case V1 =>
    refine Lib.hid fun W B u2 hW ho => ?_
    refine (value_rd _ u2 B W ho (tx_back t1.1 t1.2 (by omega) m2) (hE.below hW (Nat.le_refl _))).mono ?_
    rintro x w' ⟨⟨va, vn, vc, k, f, rfl, h⟩, hb⟩
    refine ⟨⟨va, vn, vc, k, f, rfl, fun hE1 => ?_⟩, hb⟩
    have hV : litB V = true := ite8 hE1
    have htl : toksL V = tokK 16 V := by unfold toksL; rw [if_pos hV]
    have hm : mayB V = true := by have := hV; unfold litB at this; simp only [Bool.and_eq_true] at this; exact this.1
    have hpos := tokK_posV 16 V (mayB_parts hm).1
    have hx := lit_back V hV (fun c hc => ⟨((lv.2 c hc).2.2.1).1, ((lv.2 c hc).2.2.1).2⟩) (toksL V ++ M) 0 M (by rw [htl]; rfl)
    obtain ⟨e1, e2, e3⟩ := h _ _ (by rw [htl, List.length_append]; omega) hx
    refine ⟨e1, by rw [e2, htl, Nat.zero_add], fun X hX => ?_⟩
    have hwX : Below w.heap.size w X := hW.trans ((hb.trans (hX.mono hb.size)).mono hW.size)
    have := rsame03_any V V _ vu (by omega) (by omega) X (e3.below hX) (sv.below hwX)
    rw [(sameV_iff _ _).2 rfl] at this
    exact this
  case T2 => exact Lib.hid fun W hW => tt_any nm ws _ W (hu.below hW) (by omega) (by omega)
  case V2 =>
    refine Lib.hid fun W B u2 hW ho => ?_
    refine (type_rd _ u2 B W ho (tx_back t2.1 t2.2 (by omega) hM2l.2)).mono ?_
    rintro x w' ⟨⟨s, va, vn, vc, k, f, rfl, h⟩, hb⟩
    refine ⟨⟨s, va, vn, vc, k, f, rfl, fun hE1 => ?_⟩, hb⟩
    have hB : ttB nm.data.toList ws = true := ite8 hE1
    have htl : ttL nm.data.toList ws = typK nm.data.toList ws := by unfold ttL; rw [if_pos hB]
    unfold ttB at hB
    simp only [Bool.and_eq_true, decide_eq_true_eq] at hB
    obtain ⟨hb1, hb2, hb3⟩ := hB
    have hx := typ_back (ttL nm.data.toList ws ++ M2) nm.data.toList ws.length ws 2 10 0 0 M2 (Nat.le_refl _) hb3 (by omega) (by omega) (by rw [htl]; rfl) n1
    have hpos : 0 < (typK nm.data.toList ws).length := by
      cases ws with
      | nil => simp [typK]
      | cons a r => unfold typK; split <;> simp
    obtain ⟨e1, e2, e3, e4⟩ := h _ _ _ _ (by rw [htl, List.length_append]; omega) hx
    subst e3
    refine ⟨e1, by rw [e2, htl, Nat.zero_add], fun X hX => ?_⟩
    have hwX : Below w.heap.size w X := hW.trans ((hb.trans (hX.mono hb.size)).mono hW.size)
    have e5 : (⟨nm.data.toList.toArray⟩ : ByteArray) = nm := by cases nm; simp
    rw [e5]
    exact sametype_row nm va ta vn vc ws.length tc ws _ X (e4.below hX) (hu.below hwX)
  case T3 => exact Lib.hid fun W hW => argtoks_any A au W (ArgSl.below sa hW) (xsl_form sa) a1 (by omega) (hU.below hW) (hT.stays hW)
  case V3 =>
    refine Lib.hid fun W B u2 hW ho => ?_
    refine (args_rd _ u2 B W ho (tx_back t3.1 t3.2 hM3.1 hM3.2) (by simp only [List.length_append, List.length_cons, List.length_nil]; omega) (hE.below hW (Nat.le_refl _))).mono ?_
    rintro x w' ⟨⟨va, vn, vc, k, f, rfl, h⟩, hb⟩
    refine ⟨⟨va, vn, vc, k, f, rfl, fun hE1 => ?_⟩, hb⟩
    have hV : namedB [] A = true := ite8 hE1
    have htl : atoksL A = argsK A := by unfold atoksL; rw [if_pos hV]
    have hx := args_back A hV (fun x hx => (a4 x hx).2.2.1) (atoksL A ++ (M2 ++ [tok0])) 0 _ (by rw [htl]; rfl) (fun _ => nogo_behind n2 tok0 (by decide))
    obtain ⟨e1, e2, e3⟩ := h _ _ hx
    refine ⟨e1, by rw [e2, htl, Nat.zero_add], fun X hX => ?_⟩
    have hwX : Below w.heap.size w X := hW.trans ((hb.trans (hX.mono hb.size)).mono hW.size)
    exact sameargs_self A (by omega) (fun i hi => by have := (a4 A[i] (List.getElem_mem hi)).2.2.2; omega) _ au X (ArgSl.below e3 hX) (ArgSl.below sa hwX)
  case T4 => exact Lib.hid fun W hW => dirtoks_any D du W (DirSl.below sd hW) ⟨by omega, fun x hx => ⟨by have := (d2 x hx).2; omega, (dA x hx).1⟩⟩ (by omega) (hU.below hW) (hT.stays hW)
  case V4 =>
    refine Lib.hid fun W B u2 hW ho => ?_
    refine (dirs_rd _ u2 B W ho (tx_back t4.1 t4.2 hM3.1 hM3.2) (by simp only [List.length_append, List.length_cons, List.length_nil]; omega) (hE.below hW (Nat.le_refl _))).mono ?_
    rintro x w' ⟨⟨va, vn, vc, k, f, rfl, h⟩, hb⟩
    refine ⟨⟨va, vn, vc, k, f, rfl, fun hE1 => ?_⟩, hb⟩
    have hV : D.all dirB = true := ite8 hE1
    have htl : dtoksL D = D.flatMap dirK := by unfold dtoksL; rw [if_pos hV]
    have hx := dirs_back D hV (fun x hx y hy => ((dA x hx).2.2.2 y hy).2.2.1) (dtoksL D ++ (M2 ++ [tok0])) 0 _ (by rw [htl]; rfl) (nogo_behind n2 tok0 (by decide)) (nogo_behind n3 tok0 (by decide))
    obtain ⟨e1, e2, e3⟩ := h _ _ hx
    refine ⟨e1, by rw [e2, htl, Nat.zero_add], fun X hX => ?_⟩
    have hwX : Below w.heap.size w X := hW.trans ((hb.trans (hX.mono hb.size)).mono hW.size)
    exact samedirs_self D (by omega) (fun i hi => ⟨by have := (dA D[i] (List.getElem_mem hi)).2.2.1; omega, fun j hj => by have := ((dA D[i] (List.getElem_mem hi)).2.2.2 _ (List.getElem_mem hj)).2.2.2; omega⟩) _ du X (DirSl.below e3 hX) (DirSl.below sd hwX)
end Go.Proofs.YtgaknbnhmoddcaaGreatDoor
namespace Go.Proofs.YtgaknbnhmoddcaaGreatDoor
open Go.RowKit Go.WideShapes Go.ChangeShapes Go.Joins Go.Deep
theorem cells_token : Tryz.prog.cellsOf 72 = 3 := by kernel_rfl
section
variable {H : Type} {enc : TypeId × Value → H} {w : World} {base : Nat} {spare : Nat → Bool} {held : Bool}
theorem toks_of (w : World) (a : Addr) : ∀ n : Nat, (∀ i, i < n → ∃ (k : UInt8) (s : ByteArray) (p : Int), w.cell? (a.add (i * 3)) = some (.int .u8 (k.toNat : Int)) ∧ w.cell? (a.add (i * 3 + 1)) = some (.string s) ∧ w.cell? (a.add (i * 3 + 2)) = some (.int .i64 p) ∧ s.size ≤ maxLen) →
    ∃ L : List Tok, L.length = n ∧ (∀ t ∈ L, t.text.length ≤ maxLen) ∧ ∀ (i : Nat) (h : i < L.length), w.cell? (a.add (i * 3)) = some (.int .u8 (L[i].kind.toNat : Int)) ∧ w.cell? (a.add (i * 3 + 1)) = some (.string ⟨L[i].text.toArray⟩) ∧ w.cell? (a.add (i * 3 + 2)) = some (.int .i64 L[i].pos)
  | 0, _ => ⟨[], rfl, (fun t h => by cases h), (fun i h => absurd h (by simp))⟩
  | n + 1, h => by
    obtain ⟨L, hl, hz, hc⟩ := toks_of w a n fun i hi => h i (by omega)
    obtain ⟨k, s, p, c0, c1, c2, hs⟩ := h n (by omega)
    refine ⟨L ++ [⟨k, s.data.toList, p⟩], by simp [hl], ?_, ?_⟩
    · intro t ht
      rcases List.mem_append.1 ht with ht | ht
      · exact hz t ht
      · rw [List.mem_singleton] at ht
        rw [ht]
        show s.data.toList.length ≤ maxLen
        rw [Array.length_toList]
        exact hs
    · intro i hi
      by_cases hin : i < L.length
      · rw [List.getElem_append_left hin]
        exact hc i hin
      · have hin' : i = L.length := by
          rw [List.length_append] at hi
          simp at hi
          omega
        subst hin'
        rw [List.getElem_append_right (Nat.le_refl _)]
        simp only [Nat.sub_self, List.getElem_cons_zero]
        rw [hl]
        refine ⟨c0, ?_, c2⟩
        rw [c1]
/-- An element of a slice of structs, whose fields have one cell each: each field's cell, and its reading. -/
theorem elem_fieldsT {P : Program} {H : Type} {enc : TypeId × Value → H} {w : World} {base : Nat} {spare : Nat → Bool} {held : Bool} {e : TypeId} {fs : Array Field} (he : P.underlying e = some (.struct fs)) (hone : oneCellFields P fs = true) {a : Addr} {k n : Nat} {cs : List Value} {x : DataW H × List MemPlace}
    (hk : k = P.cellsOf e) (hk2 : k = fs.size) (hc : w.cells? base a k = some cs) (ht : DataW.trod enc P w base spare held n e cs = some x) (j : Nat) (f : Field) (hj : fs[j]? = some f) :
    ∃ (v : Value) (y : DataW H × List MemPlace) (n' : Nat), w.cell? (a.add j) = some v ∧ DataW.trod enc P w base spare held n' f.type [v] = some y := by
  obtain ⟨ys, n', hn', hy, hlen, hyl, hf⟩ := DataW.trod_struct he ht
  obtain ⟨_, hcl, hat⟩ := World.cells?_some hc
  obtain ⟨ho, h1⟩ := hone_of hone j f hj
  have hjl : j < fs.size := (Array.getElem?_eq_some_iff.1 hj).1
  have hjc : j < cs.length := by omega
  have hcell := hat j (by omega)
  have g := hf j f hj
  rw [ho, h1, List.drop_eq_getElem_cons hjc] at g
  have hys : ys[j]? = some (ys[j]'(by omega)) := List.getElem?_eq_getElem (by omega)
  refine ⟨cs[j], ys[j]'(by omega), n', ?_, ?_⟩
  · rw [hcell]; exact List.getElem?_eq_getElem hjc
  · exact g.trans hys
theorem open_tokens {v : Value} {d : DataW H} {p : List MemPlace} (hv : ∃ a l c, v = .slice a l c) (h : DataW.Trod enc Tryz.prog w base spare held 32 v d p) :
    ∃ L : List Tok, TokSl v L w ∧ L.length ≤ maxLen ∧ ∀ t ∈ L, t.text.length ≤ maxLen := by
  obtain ⟨fuel, hf⟩ := h
  obtain ⟨sa, sl, sc, rfl⟩ := hv
  have hcs : (Value.slice sa sl sc).cells.toList = [.slice sa sl sc] := rfl
  rw [hcs] at hf
  rcases open_slice Tryz.underlying32 hf with ⟨h0, _⟩ | ⟨a, len, cap, m, n, D, Pl, h0, hb, hl, hm, hmm, hx, hi⟩
  · injection h0 with h0
    exact ⟨[], Or.inl ⟨_, _, h0, rfl, fun _ => rfl⟩, by decide, fun t h => by cases h⟩
  · injection h0 with h0
    have hlm : len ≤ m := by rw [hmm]; split <;> omega
    obtain ⟨L, hL, hz, hc⟩ := toks_of w a len (fun i hil => by
      obtain ⟨cs', hc, ht⟩ := hi i (by omega)
      rw [cells_token] at hc
      have F := fun j f hj => elem_fieldsT Tryz.underlying72 (by kernel_rfl) cells_token.symm rfl hc ht j f hj
      obtain ⟨v0, y0, n0, g0, t0⟩ := F 0 _ rfl
      obtain ⟨v1, y1, n1, g1, t1⟩ := F 1 _ rfl
      obtain ⟨v2, y2, n2, g2, t2⟩ := F 2 _ rfl
      obtain ⟨k, e0, _, wk⟩ := DataW.trod_int Tryz.underlying5 t0
      obtain ⟨s, e1, _, ws⟩ := DataW.trod_string Tryz.underlying9 t1
      obtain ⟨q, e2, _, wq⟩ := DataW.trod_int Tryz.underlying3 t2
      injection e0 with e0
      injection e1 with e1
      injection e2 with e2
      subst e0 e1 e2
      obtain ⟨k1, k2⟩ := Go.bounds_u8 wk
      have hk : ((UInt8.ofNat k.toNat).toNat : Int) = k := by
        rw [UInt8.toNat_ofNat']
        omega
      refine ⟨UInt8.ofNat k.toNat, s, q, ?_, ?_, ?_, ws⟩
      · rw [hk, ← g0]
        rw [Go.Deep.add_add]; rfl
      · rw [← g1, Go.Deep.add_add]
      · rw [← g2, Go.Deep.add_add])
    refine ⟨L, ?_, by omega, hz⟩
    by_cases h0l : L = []
    · rw [h0l] at hL
      refine Or.inl ⟨some a, cap, ?_, h0l, fun h => by cases h⟩
      rw [h0, ← hL]; rfl
    · have hpos : 0 < L.length := List.length_pos_iff.2 h0l
      obtain ⟨ab, ao, asp⟩ := a
      obtain ⟨_, g1, _⟩ := hc 0 hpos
      have hspot : asp = none := by simpa [Addr.add] using World.cell?_spot (hc 0 hpos).1
      subst hspot
      have hadd : ∀ j, (⟨ab, ao, none⟩ : Addr).add j = ⟨ab, ao + j, none⟩ := by
        intro j
        unfold Addr.add
        split
        · rename_i hz; rw [hz]; rfl
        · rfl
      refine Or.inr ⟨ab, ao, cap, by rw [h0, hL], ?_⟩
      intro k hk
      obtain ⟨q0, q1, q2⟩ := hc k hk
      rw [hadd] at q0 q1 q2
      exact ⟨q0, q1, q2⟩
end
end Go.Proofs.YtgaknbnhmoddcaaGreatDoor
namespace Go.Proofs.YtgaknbnhmoddcaaGreatDoor
open Go.RowKit Go.WideShapes Go.ChangeShapes
section
variable {H : Type} {enc : TypeId × Value → H} {P : Program}
/-- What 'post_of_same' asks of all addresses is asked here of the old blocks alone. -/
theorem post_below {f : Func} {s : ChangeSpec} {apart fresh handsOn again : Bool} {W W' : World} {args : Array Value} {v : Value} {ds gs : List (DataW H)} {before pa pv : List MemPlace}
    (hW : DataW.Whole enc P f.params.toList s.vars apart W args.toList ds gs before)
    (hres : ∀ (b : Nat) (sp : Nat → Bool) (hd : Bool), DataW.TrodAll enc P W' b sp hd f.resultTypes.toList (v.resultList f.resultTypes.size) (s.fn H (ds ++ gs)).results [])
    (hargs : ∀ sp : Nat → Bool, (∀ p ∈ before, sp p.block = true) → DataW.TrodAll enc P W' 0 sp true f.params.toList args.toList (s.fn H (ds ++ gs)).args pa)
    (hvars : ∀ sp : Nat → Bool, (∀ p ∈ before, sp p.block = true) → DataW.TrodVars enc P W' sp s.vars (s.fn H (ds ++ gs)).vars pv)
    (hps : before = pa ++ pv) (hb : Below W.heap.size W W')
    (hok : ∀ (j : Nat) (t : TypeId) (r : Value), f.resultTypes[j]? = some t → (v.resultList f.resultTypes.size)[j]? = some r → Value.okWide P W' .any 0 t r) :
    s.post enc P f apart fresh handsOn again W args v W' := by
  have old : ∀ p ∈ before, decide (p.block < W.heap.size) = true := fun p hp => decide_eq_true (hW.lt p hp)
  subst hps
  refine ⟨ds, gs, pa ++ pv, [], pa, pv, hW, hres _ _ _, hargs _ old, hvars _ old, World.keptBut_mono (fun p hp => ⟨hp, ?_⟩) (hb.frame (· ∈ pa ++ pv)), fun _ => ?_⟩
  · exact .inr (List.mem_append.1 hp)
  · obtain ⟨_, _, _, _, _, hz, hn⟩ := hW
    refine ⟨hok, _, _, ([] ++ pa) ++ pv, ⟨[] ++ pa, pv, trodAll_append (hargs _ (fun _ _ => rfl)) (hres _ _ _), hvars _ (fun _ _ => rfl), rfl, ?_, ?_⟩, ?_⟩
    · intro b off hp
      have hin : MemPlace.cell b off ∈ pa ++ pv := by simpa using hp
      rw [hb.frozen (of_decide_eq_true (old _ hin))]
      exact hz b off hin
    · intro ha
      simpa using hn ha
    · intro p hp _
      simpa using hp
end
end Go.Proofs.YtgaknbnhmoddcaaGreatDoor
