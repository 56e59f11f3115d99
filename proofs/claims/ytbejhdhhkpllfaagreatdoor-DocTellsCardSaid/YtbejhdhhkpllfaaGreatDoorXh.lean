/- doc.sels and its inner function: so many selections, each with what stands under it. -/
import Derived.Test.YtbejhdhhkpllfaaGreatDoorXg
set_option linter.unusedSimpArgs false
set_option linter.unusedVariables false
namespace Go.Proofs.YtbejhdhhkpllfaaGreatDoor
open Go.RowKit
def SelRm (x : SelD) : Prop := SelSm x ∧ roomA x.args ≤ 80000 ∧ roomD x.dirs ≤ 80000 ∧ (-9223372036854775808 ≤ x.many ∧ x.many ≤ 9223372036854775807)
theorem dsl_any (x : SelD) (ev : Value) (w : World) (h : SelV ev x w) (hs : SelRm x) (hE : EnvU w) (hT : EnvT w) :
    Calls Tryz.prog 37 #[ev] w fun e w' => e = .returned (.bool (selB x)) ∧ Below w.heap.size w w' := by
  obtain ⟨a0, n0, c0, a1, n1, c1, rfl, h1, h2⟩ := h
  obtain ⟨⟨s1, s2, s3, s4⟩, r1, r2, r3⟩ := hs
  have e1 : (⟨x.als.toArray⟩ : ByteArray).toList = x.als := by rw [ByteArray.toList_eq]
  have e2 : (⟨x.name.toArray⟩ : ByteArray).toList = x.name := by rw [ByteArray.toList_eq]
  have hn : n0 = x.args.length := by
    rcases h1 with ⟨_, _, e, h⟩ | ⟨_, _, _, e, _⟩
    · injection e with _ e _; rw [e, h]; rfl
    · injection e with _ e _
  have hr : selB x = (namedB [] x.args && x.dirs.all dirB && !decide (x.many < 0) && cond ((x.kind.toNat : Int) == 1) (nameB x.name && (x.als.isEmpty || nameB x.als)) (cond ((x.kind.toNat : Int) == 2) (nameB x.name && !(x.name == [111, 110]) && x.als.isEmpty && ((n0 : Int) == 0) && (x.many == 0)) (cond ((x.kind.toNat : Int) == 3) ((x.name.isEmpty || nameB x.name) && x.als.isEmpty && ((n0 : Int) == 0) && decide (0 < x.many)) false))) := by
    unfold selB
    have k1 : (x.kind = 1) ↔ x.kind.toNat = 1 := u8_kind x.kind 1 (by decide)
    have k2 : (x.kind = 2) ↔ x.kind.toNat = 2 := u8_kind x.kind 2 (by decide)
    have k3 : (x.kind = 3) ↔ x.kind.toNat = 3 := u8_kind x.kind 3 (by decide)
    have q1 : ((x.kind.toNat : Int) == 1) = decide (x.kind.toNat = 1) := by rw [Bool.eq_iff_iff, beq_iff_eq, decide_eq_true_iff]; omega
    have q2 : ((x.kind.toNat : Int) == 2) = decide (x.kind.toNat = 2) := by rw [Bool.eq_iff_iff, beq_iff_eq, decide_eq_true_iff]; omega
    have q3 : ((x.kind.toNat : Int) == 3) = decide (x.kind.toNat = 3) := by rw [Bool.eq_iff_iff, beq_iff_eq, decide_eq_true_iff]; omega
    have q4 : ((n0 : Int) == 0) = x.args.isEmpty := by
      rw [hn]; cases x.args with
      | nil => rfl
      | cons c r => rw [List.length_cons]; simp; omega
    have q5 : (x.many == 0) = decide (x.many = 0) := by rw [Bool.eq_iff_iff, beq_iff_eq, decide_eq_true_iff]
    have q6 : (!decide (x.many < 0)) = decide (0 ≤ x.many) := by rw [Bool.eq_iff_iff]; simp
    have q7 : eqB x.name onK = (x.name == [111, 110]) := (eqB_of (by rw [beq_iff_eq]; rfl)).symm
    rw [q1, q2, q3, q4, q5, q6, q7]
    simp only [k1, k2, k3]
    congr 1
    by_cases h1 : x.kind.toNat = 1
    · simp [h1]
    · by_cases h2 : x.kind.toNat = 2
      · simp [h1, h2]
      · by_cases h3 : x.kind.toNat = 3
        · simp [h1, h2, h3]
        · simp [h1, h2, h3]
  rw [hr]
  refine dsl_c _ _ _ _ _ _ _ _ _ _ (namedB [] x.args) (x.dirs.all dirB) (nameB x.name) (nameB x.als) _ _ _ _ _ _ _ _ _ _ w ?_ ?_ ?_ ?_ rfl rfl rfl rfl rfl rfl rfl (by rw [Bool.eq_iff_iff, beq_iff_eq, beq_iff_eq]; omega) ?_ ?_ ?_ ?_ ?_ ?_ ?_ ?_ ?_ ?_ ?_ ?_
  · refine Lib.hid fun W hW => (argtoks_any x.args _ W (ArgSl.below h1 hW) ⟨_, _, _, rfl⟩ s3 r1 (hE.below hW) (hT.stays hW)).mono ?_
    rintro e w' ⟨⟨v, rfl, _⟩, hb⟩
    exact ⟨⟨v, by unfold atoksE; cases namedB [] x.args <;> rfl⟩, hb⟩
  · refine Lib.hid fun W hW => (dirtoks_any x.dirs _ W (DirSlc.dir (DirSlc.below h2 hW)) s4 r2 (hE.below hW) (hT.stays hW)).mono ?_
    rintro e w' ⟨⟨v, rfl, _⟩, hb⟩
    exact ⟨⟨v, by unfold dtoksE; cases x.dirs.all dirB <;> rfl⟩, hb⟩
  · exact Lib.hid fun W _ => calls_below (lname_big _ (by rw [← bsz]; exact s2) W)
  · exact Lib.hid fun W _ => calls_below (lname_big _ (by rw [← bsz]; exact s1) W)
  · rw [e1]; cases x.als <;> rfl
  · rw [e1]
  · rw [e1]; intro h; simpa using h
  · rw [e1]; intro h; simpa using h
  · rw [e2]; cases x.name <;> rfl
  · rw [e2]
  · rw [e2]; intro h; simpa using h
  · rw [e2]; intro h; simpa using h
  · rw [e2]
  · rw [e2]; rfl
  · rw [e2]; intro h; exact beq_iff_eq.1 h
  · rw [e2]; intro h; exact beq_eq_false_iff_ne.1 h
def endW (L : List SelD) (o : Option Nat) : Int := match o with
  | none => (L.length : Int) + 1
  | some q => (q : Int)
/-- How the rounds stand: at a place, or out. -/
def RS (L : List SelD) (f r o p : Nat) (R : Option Nat) : Prop := (∃ g, p ≤ L.length ∧ L.length ≤ p + g ∧ g ≤ f ∧ runS L g p r o = R) ∨ (p = L.length + 1 ∧ R = none)
theorem RS.done {L : List SelD} {f o p : Nat} {R : Option Nat} (h : RS L f 0 o p R) : (p : Int) = endW L R := by
  rcases h with ⟨g, h1, h2, h3, h4⟩ | ⟨h1, h2⟩
  · rw [runS_zero] at h4
    rw [← h4]; rfl
  · rw [h2, h1]; unfold endW; simp
theorem RS.out_ {L : List SelD} {f r o p : Nat} {R : Option Nat} (h : RS L f (r + 1) o p R) (hp : L.length ≤ p) : (L.length : Int) + 1 = endW L R := by
  rcases h with ⟨g, h1, h2, h3, h4⟩ | ⟨h1, h2⟩
  · rw [runS_out L g p r o hp] at h4
    rw [← h4]; rfl
  · rw [h2]; rfl
theorem RS.no {L : List SelD} {f r o p : Nat} {R : Option Nat} (h : RS L f (r + 1) o p R) (hp : p < L.length) (hx : deepB L[p] o = false) : (L.length : Int) + 1 = endW L R := by
  rcases h with ⟨g, h1, h2, h3, h4⟩ | ⟨h1, h2⟩
  · rw [runS_no L g p r o hp hx] at h4
    rw [← h4]; rfl
  · rw [h2]; rfl
theorem RS.next {L : List SelD} {f r o p : Nat} {R : Option Nat} (h : RS L f (r + 1) o p R) (hp : p < L.length) (hx : deepB L[p] o = true) :
    ∃ g, g < f ∧ L.length ≤ p + 1 + g ∧ ∃ q : Nat, endW L (runS L g (p + 1) L[p].many.toNat (o + 1)) = (q : Int) ∧ q ≤ L.length + 1 ∧ RS L f r o q R := by
  rcases h with ⟨g, h1, h2, h3, h4⟩ | ⟨h1, h2⟩
  · cases g with
    | zero => omega
    | succ g =>
      refine ⟨g, by omega, by omega, ?_⟩
      cases hu : runS L g (p + 1) L[p].many.toNat (o + 1) with
      | none =>
        rw [runS_bad L g p r o hp hx hu] at h4
        exact ⟨L.length + 1, by unfold endW; simp, Nat.le_refl _, Or.inr ⟨rfl, h4.symm⟩⟩
      | some q =>
        rw [runS_next L g p r o q hp hx hu] at h4
        have := runS_ends L g (p + 1) _ _ q (by omega) hu
        exact ⟨q, rfl, by omega, Or.inl ⟨g, this.2, by omega, by omega, h4⟩⟩
  · omega
theorem dw_ent : ∀ args w, (callFunc 36 args).run Tryz.prog w = .ok (.enter 36 args) w := enters_of Tryz.func36 (by kernel_rfl) rfl
/-- The selections' slice: where its elements lie, if there are some. -/
def SelAt (a : Option Addr) (n : Nat) (L : List SelD) (w : World) : Prop := n = L.length ∧ (0 < L.length → ∃ b off, a = some ⟨b, off, none⟩ ∧ RowG 6 SelE ⟨b, off, none⟩ L w)
theorem selAt_of {a : Option Addr} {n c : Nat} {F : List SelD} {w : World} (h : SelSl (.slice a n c) F w) : SelAt a n F w := by
  rcases h with ⟨a2, c2, e, rfl⟩ | ⟨b, off, c2, e, h, hp⟩
  · injection e with e1 e2 e3
    exact ⟨e2, fun h => absurd h (by simp)⟩
  · injection e with e1 e2 e3
    exact ⟨e2, fun _ => ⟨b, off, e1, h⟩⟩
set_option maxRecDepth 100000 in
set_option maxHeartbeats 8000000 in
theorem dwalk_step (L : List SelD) (sa : Option Addr) (n cap bl bw : Nat) (w0 : World) (hat : SelAt sa n L w0) (hsm : ∀ x ∈ L, SelRm x) (hl : L.length ≤ 100000) (hE : EnvU w0) (hT : EnvT w0)
    (cl : w0.cell? ⟨bl, 0, none⟩ = some (.slice sa n cap)) (cw : w0.cell? ⟨bw, 0, none⟩ = some (.func (.func 36) #[] #[.pointer (some ⟨bl, 0, none⟩), .pointer (some ⟨bw, 0, none⟩)])) (f : Nat)
    (HIH : Hid (∀ g, g < f → ∀ (p r o : Nat) (W : World), p ≤ L.length → L.length ≤ p + g → (r : Int) ≤ 9223372036854775807 → o ≤ 17 → (0 < r → o ≤ 16) → Below w0.heap.size w0 W →
      Calls Tryz.prog 36 #[.int .i64 (p : Int), .int .i64 (r : Int), .int .i64 (o : Int), .pointer (some ⟨bl, 0, none⟩), .pointer (some ⟨bw, 0, none⟩)] W fun e w' => e = .returned (.int .i64 (endW L (runS L g p r o))) ∧ Below W.heap.size W w'))
    (p0 r o : Nat) (W : World) (hp0 : p0 ≤ L.length) (hf : L.length ≤ p0 + f) (hr : (r : Int) ≤ 9223372036854775807) (ho : o ≤ 17) (ho2 : 0 < r → o ≤ 16) (hW : Below w0.heap.size w0 W) :
    Calls Tryz.prog 36 #[.int .i64 (p0 : Int), .int .i64 (r : Int), .int .i64 (o : Int), .pointer (some ⟨bl, 0, none⟩), .pointer (some ⟨bw, 0, none⟩)] W fun e w' => e = .returned (.int .i64 (endW L (runS L f p0 r o))) ∧ Below W.heap.size W w' := by
  obtain ⟨R, hR⟩ : ∃ R, runS L f p0 r o = R := ⟨_, rfl⟩
  have HS0 : Hid (RS L f r o p0 R) := Lib.hid (Or.inl ⟨f, hp0, hf, Nat.le_refl _, hR⟩)
  have HAT := Lib.hid hat
  have HNL : Hid (n = L.length) := Lib.hid hat.1
  have HSM := Lib.hid hsm
  have HE0 := Lib.hid hE
  have HT0 := Lib.hid hT
  have HWB := Lib.hid hW
  have HCL := Lib.hid cl
  have HCW := Lib.hid cw
  rw [hR]
  have hn : n ≤ 100000 := by rw [hat.1]; exact hl
  have hp0n : p0 ≤ n + 1 := by rw [hat.1]; omega
  have ew := dw_ent
  clear hat hsm hE hT hW cl cw hR hp0 hf hl
  go_enter Tryz.func36, Tryz.ntmps36
  go_wp2_with fail
  go_loopw [0, 10] (fun at_ ct wr => ∃ p j : Nat, at_ = .int .i64 (p : Int) ∧ ct = .int .i64 (j : Int) ∧ j ≤ r ∧ p ≤ n + 1 ∧ Hid (RS L f (r - j) o p R) ∧ Hid (Below W.heap.size W wr)) (fun at_ ct wr => r - (intOf ct).toNat)
  case atStart => exact ⟨p0, 0, rfl, rfl, Nat.zero_le _, hp0n, HS0, Lib.hid (Below.refl _ _)⟩
  case round =>
    clear HS0 hp0n
    rename World => wr
    obtain ⟨p, j, rfl, rfl, hj, hpn, HS, HB⟩ := hrel
    have hz := HB.out.size
    have hzw := HWB.out.size
    have hBW : Below w0.heap.size w0 wr := HWB.out.trans (HB.out.mono HWB.out.size)
    have HBW := Lib.hid hBW
    have e3 : wr.cell? ⟨bl, 0, none⟩ = some (.slice sa n cap) := (hBW.cell (p := ⟨_, _, none⟩) (lt_of_cell HCL.out)).trans HCL.out
    have e4 : wr.cell? ⟨bw, 0, none⟩ = some (.func (.func 36) #[] #[.pointer (some ⟨bl, 0, none⟩), .pointer (some ⟨bw, 0, none⟩)]) := (hBW.cell (p := ⟨_, _, none⟩) (lt_of_cell HCW.out)).trans HCW.out
    clear hBW
    by_cases hjr : j < r
    · have ho5 : o ≤ 16 := ho2 (by omega)
      obtain ⟨r1, hr1⟩ : ∃ r1, r - j = r1 + 1 := ⟨r - j - 1, by omega⟩
      have HS1 : Hid (RS L f (r1 + 1) o p R) := Lib.hid (by rw [← hr1]; exact HS.out)
      have HR1 : Hid (r - (j + 1) = r1) := Lib.hid (by omega)
      clear HS hr1
      have j1 : (j : Int) < (r : Int) := by omega
      have hex : decide ((n : Int) ≤ (p : Int)) = decide (n ≤ p) := by rw [Bool.eq_iff_iff]; simp
      by_cases hp : p < n
      · have hpl : p < L.length := by have := HNL.out; omega
        obtain ⟨b, off, hsa, hrow⟩ := HAT.out.2 (by omega)
        subst hsa
        obtain ⟨y0, y1, y2, y3, y4, y5, q0, q1, q2, q3, q4, q5, yy, yz⟩ := Sel_at (RowG.below hrow fun _ _ h => SelE.below h HBW.out) p hpl
        have sm := HSM.out L[p] (List.getElem_mem hpl)
        obtain ⟨t0, ht0⟩ : ∃ t, selB L[p] = t := ⟨_, rfl⟩
        have HC : Hid (∀ W', Below wr.heap.size wr W' → Calls Tryz.prog 37 #[.agg #[.int .u8 (L[p].kind.toNat : Int), .string ⟨L[p].als.toArray⟩, .string ⟨L[p].name.toArray⟩, .slice y0 y1 y2, .slice y3 y4 y5, .int .i64 L[p].many]] W' fun e w' => e = .returned (.bool t0) ∧ Below W'.heap.size W' w') := Lib.hid fun W' hW' => by
          rw [← ht0]
          exact dsl_any L[p] _ W' ⟨_, _, _, _, _, _, rfl, ArgSl.below yy hW', DirSlc.below yz hW'⟩ sm (HE0.out.below (HBW.out.trans (hW'.mono HBW.out.size))) (HT0.out.stays (HBW.out.trans (hW'.mono HBW.out.size)))
        have h1 : decide ((n : Int) ≤ (p : Int)) = false := by rw [decide_eq_false_iff_not]; omega
        have h1b : decide (n ≤ p) = false := by rw [decide_eq_false_iff_not]; omega
        have i1 : (p : Int).toNat = p := by omega
        have i2 : (0 : Int) ≤ (p : Int) := by omega
        have i3 : (p : Int) < (n : Int) := by omega
        cases t0 with
        | false =>
          have HF : Hid ((n : Int) + 1 = endW L R) := Lib.hid (by rw [HNL.out]; exact HS1.out.no hpl (by unfold deepB; rw [ht0]; rfl))
          clear ht0 yy yz sm hrow hex
          generalize (⟨L[p].als.toArray⟩ : ByteArray) = x1 at *
          generalize (⟨L[p].name.toArray⟩ : ByteArray) = x2 at *
          generalize (L[p].kind.toNat : Int) = kk at *
          generalize L[p].many = mm at *
          have pb := lt_of_cell q0
          have pl := lt_of_cell e3
          have pw := lt_of_cell e4
          go_wp2_with fail
          refine (HC.out _ (Below.refl _ _)).mono ?_; rintro e w5 ⟨rfl, hb⟩
          have f3 := (hb.cell (p := ⟨_, _, none⟩) pl).trans e3
          have HB1 := Lib.hid (HB.out.trans (hb.mono hz))
          clear hb e3 e4 q0 q1 q2 q3 q4 q5
          go_wp2_with fail
          go_ret
          exact ⟨ret_i HF.out, HB1.out⟩
        | true =>
          have hmn : 0 ≤ L[p].many := by
            have h := ht0
            unfold selB at h
            simp only [Bool.and_eq_true, decide_eq_true_eq] at h
            exact h.1.2
          obtain ⟨m, hm⟩ := Int.eq_ofNat_of_zero_le hmn
          have hmx : (m : Int) ≤ 9223372036854775807 := by rw [← hm]; exact sm.2.2.2.2
          have hmt : L[p].many.toNat = m := by rw [hm]; rfl
          have hdp : deepB L[p] o = !(decide (0 < (m : Int)) && decide (o = 16)) := by unfold deepB; rw [ht0, hm]; rfl
          rw [hm] at q5 HC
          have hto : ((o : Int) == 16) = decide (o = 16) := by rw [Bool.eq_iff_iff, beq_iff_eq, decide_eq_true_iff]; omega
          have HDP := Lib.hid hdp
          have HMT := Lib.hid hmt
          have HBT := Lib.hid hto
          clear ht0 yy yz sm hrow hex hdp hm hmt hmn hto
          generalize (⟨L[p].als.toArray⟩ : ByteArray) = x1 at *
          generalize (⟨L[p].name.toArray⟩ : ByteArray) = x2 at *
          generalize (L[p].kind.toNat : Int) = kk at *
          have pb := lt_of_cell q0
          have pl := lt_of_cell e3
          have pw := lt_of_cell e4
          obtain ⟨t2, ht2⟩ : ∃ t, decide (0 < (m : Int)) = t := ⟨_, rfl⟩
          cases t2 with
          | true =>
            have hm0 : (0 : Int) < (m : Int) := of_decide_eq_true ht2
            by_cases ho3 : o = 16
            · have hto : ((o : Int) == 16) = true := by rw [HBT.out, decide_eq_true_iff]; exact ho3
              have HF : Hid ((n : Int) + 1 = endW L R) := Lib.hid (by rw [HNL.out]; exact HS1.out.no hpl (by rw [HDP.out, ht2, decide_eq_true ho3]; rfl))
              clear ho3
              go_wp2_with fail
              refine (HC.out _ (Below.refl _ _)).mono ?_; rintro e w5 ⟨rfl, hb⟩
              have f3 := (hb.cell (p := ⟨_, _, none⟩) pl).trans e3
              have f5 := (hb.cell (p := ⟨b, _, none⟩) (lt_of_cell q5)).trans q5
              have HB1 := Lib.hid (HB.out.trans (hb.mono hz))
              clear hb e3 e4 q0 q1 q2 q3 q4 q5
              go_wp2_with fail
              go_ret
              exact ⟨ret_i HF.out, HB1.out⟩
            · have hto : ((o : Int) == 16) = false := by rw [HBT.out, decide_eq_false_iff_not]; exact ho3
              have HDY : Hid (deepB L[p] o = true) := Lib.hid (by rw [HDP.out, ht2, decide_eq_false ho3]; rfl)
              have ho4 : o ≤ 15 := by omega
              clear ho3
              obtain ⟨g, hg1, hg2, q, hq1, hq2, hq3⟩ := HS1.out.next hpl HDY.out
              rw [HMT.out] at hq1
              have HQ3 := Lib.hid hq3
              have HREC : Hid (∀ W', Below w0.heap.size w0 W' → Calls Tryz.prog 36 #[.int .i64 ((p : Int) + 1), .int .i64 (m : Int), .int .i64 ((o : Int) + 1), .pointer (some ⟨bl, 0, none⟩), .pointer (some ⟨bw, 0, none⟩)] W' fun e w' => e = .returned (.int .i64 (q : Int)) ∧ Below W'.heap.size W' w') := Lib.hid fun W' hW' => by
                have := HIH.out g hg1 (p + 1) m (o + 1) W' (by omega) (by omega) hmx (by omega) (by omega) hW'
                rw [hq1] at this
                exact this
              have hqn : q ≤ n + 1 := by have := HNL.out; omega
              have s1 : IntKind.i64.wrap ((p : Int) + 1) = (p : Int) + 1 := IntWalk.i64_in _ (by omega)
              have s2 : IntKind.i64.wrap ((o : Int) + 1) = (o : Int) + 1 := IntWalk.i64_in _ (by omega)
              clear hq1 hq2 hq3
              go_wp2_with fail
              refine (HC.out _ (Below.refl _ _)).mono ?_; rintro e w5 ⟨rfl, hb⟩
              have f3 := (hb.cell (p := ⟨_, _, none⟩) pl).trans e3
              have f4 := (hb.cell (p := ⟨_, _, none⟩) pw).trans e4
              have f5 := (hb.cell (p := ⟨b, _, none⟩) (lt_of_cell q5)).trans q5
              have HB1 := Lib.hid (HB.out.trans (hb.mono hz))
              have HW5 := Lib.hid (HBW.out.trans (hb.mono HBW.out.size))
              have hz5 := HB1.out.size
              clear hb e3 e4 q0 q1 q2 q3 q4 q5
              go_wp2_with fail
              refine wp_region_held_drew (S := fun W => Below w5.heap.size w5 W ∧ W.cell? ⟨bl, 0, none⟩ = some (.slice (some ⟨b, off, none⟩) n cap) ∧ W.cell? ⟨bw, 0, none⟩ = some (.func (.func 36) #[] #[.pointer (some ⟨bl, 0, none⟩), .pointer (some ⟨bw, 0, none⟩)]) ∧ W.cell? ⟨b, off + p * 6 + 5, none⟩ = some (.int .i64 (m : Int))) (by kernel_rfl) (⟨⟨rfl, rfl, rfl, Nat.le_refl _, fun _ _ => rfl⟩, f3, f4, f5⟩) (fun hHeld => ?_)
              refine tky 0 (some 39) (v := ?_) rfl (by kernel_rfl) (by kernel_rfl) (by kernel_rfl) (fun _ _ _ h => h) ?_ hHeld ?_
              rotate_left
              focus (intro w hSw; (try dsimp only at hSw); go_simp; (try with_reducible rfl); done)
              simp only [Act.put, List.setIfInBounds_toArray, List.set_cons_zero, List.set_cons_succ]
              refine tky 1 (some 40) (v := ?_) rfl (by kernel_rfl) (by kernel_rfl) (by kernel_rfl) (fun _ _ _ h => h) ?_ hHeld ?_
              rotate_left
              focus (intro w hSw; (try dsimp only at hSw); go_simp; (try with_reducible rfl); done)
              simp only [Act.put, List.setIfInBounds_toArray, List.set_cons_zero, List.set_cons_succ]
              refine tky 2 (some 41) (v := ?_) rfl (by kernel_rfl) (by kernel_rfl) (by kernel_rfl) (fun _ _ _ h => h) ?_ hHeld ?_
              rotate_left
              focus (intro w hSw; (try dsimp only at hSw); go_simp; (try with_reducible rfl); done)
              simp only [Act.put, List.setIfInBounds_toArray, List.set_cons_zero, List.set_cons_succ]
              refine tky 3 (some 42) (v := ?_) rfl (by kernel_rfl) (by kernel_rfl) (by kernel_rfl) (fun _ _ _ h => h) ?_ hHeld ?_
              rotate_left
              focus (intro w hSw; (try dsimp only at hSw); go_simp; (try with_reducible rfl); done)
              simp only [Act.put, List.setIfInBounds_toArray, List.set_cons_zero, List.set_cons_succ]
              refine tky 4 (some 43) (v := ?_) rfl (by kernel_rfl) (by kernel_rfl) (by kernel_rfl) (fun _ _ _ h => h) ?_ hHeld ?_
              rotate_left
              focus (intro w hSw; (try dsimp only at hSw); go_simp; (try with_reducible rfl); done)
              simp only [Act.put, List.setIfInBounds_toArray, List.set_cons_zero, List.set_cons_succ]
              refine tky 5 (some 44) (v := ?_) rfl (by kernel_rfl) (by kernel_rfl) (by kernel_rfl) (fun _ _ _ h => h) ?_ hHeld ?_
              rotate_left
              focus (intro w hSw; (try dsimp only at hSw); go_simp; (try with_reducible rfl); done)
              simp only [Act.put, List.setIfInBounds_toArray, List.set_cons_zero, List.set_cons_succ]
              refine tky 6 (some 45) (v := ?_) rfl (by kernel_rfl) (by kernel_rfl) (by kernel_rfl) (fun _ _ _ h => h) ?_ hHeld ?_
              rotate_left
              focus (intro w hSw; (try dsimp only at hSw); go_simp; (try with_reducible rfl); done)
              simp only [Act.put, List.setIfInBounds_toArray, List.set_cons_zero, List.set_cons_succ]
              refine tky 7 (some 46) (v := ?_) rfl (by kernel_rfl) (by kernel_rfl) (by kernel_rfl) (fun _ _ _ h => h) ?_ hHeld ?_
              rotate_left
              focus (intro w hSw; (try dsimp only at hSw); go_simp; (try with_reducible rfl); done)
              simp only [Act.put, List.setIfInBounds_toArray, List.set_cons_zero, List.set_cons_succ]
              refine tky 8 (some 47) (v := ?_) rfl (by kernel_rfl) (by kernel_rfl) (by kernel_rfl) (fun _ _ _ h => h) ?_ hHeld ?_
              rotate_left
              focus (intro w hSw; (try dsimp only at hSw); go_simp; (try with_reducible rfl); done)
              simp only [Act.put, List.setIfInBounds_toArray, List.set_cons_zero, List.set_cons_succ]
              refine tky 9 (some 48) (v := ?_) rfl (by kernel_rfl) (by kernel_rfl) (by kernel_rfl) (fun _ _ _ h => h) ?_ hHeld ?_
              rotate_left
              focus (intro w hSw; (try dsimp only at hSw); go_simp; (try with_reducible rfl); done)
              simp only [Act.put, List.setIfInBounds_toArray, List.set_cons_zero, List.set_cons_succ]
              refine rcons 10 rfl (by kernel_rfl) (fun K hK => ?_)
              go_simp
              refine (HREC.out _ (HW5.out.trans (hHeld.1.mono HW5.out.size))).mono ?_; rintro e w6 ⟨rfl, hb⟩
              (try dsimp only)
              refine hK.out _ _ (⟨hHeld.1.trans (hb.mono hHeld.1.size), (hb.cell (p := ⟨_, _, none⟩) (lt_of_cell hHeld.2.1)).trans hHeld.2.1, (hb.cell (p := ⟨_, _, none⟩) (lt_of_cell hHeld.2.2.1)).trans hHeld.2.2.1, (hb.cell (p := ⟨_, _, none⟩) (lt_of_cell hHeld.2.2.2)).trans hHeld.2.2.2⟩) (fun hHeld2 => ?_)
              clear hK K hHeld
              have hHeld := hHeld2
              clear hHeld2
              (try simp only [Act.put, List.setIfInBounds_toArray, List.set_cons_zero, List.set_cons_succ])
              refine tky 11 (some 0) (v := ?_) rfl (by kernel_rfl) (by kernel_rfl) (by kernel_rfl) (fun _ _ _ h => h) ?_ hHeld ?_
              rotate_left
              focus (intro w hSw; (try dsimp only at hSw); go_simp; (try with_reducible rfl); done)
              simp only [Act.put, List.setIfInBounds_toArray, List.set_cons_zero, List.set_cons_succ]
              refine wpAnyH_done (by kernel_rfl) ?_ _
              have HBN : Hid (Below W.heap.size W _) := Lib.hid (HB1.out.trans (hHeld.1.mono hz5))
              have HQN : Hid (RS L f (r - (j + 1)) o q R) := Lib.hid (by rw [HR1.out]; exact HQ3.out)
              go_wp2_with fail
              go_roundw
              case rel => exact ⟨q, j + 1, rfl, by go_num, by omega, hqn, HQN, HBN⟩
              case measure => simp [intOf]; omega
          | false =>
            have hm0 : ¬ (0 : Int) < (m : Int) := of_decide_eq_false ht2
            have HDY : Hid (deepB L[p] o = true) := Lib.hid (by rw [HDP.out, ht2]; rfl)
            have ho4 : o ≤ 16 := ho5
            obtain ⟨g, hg1, hg2, q, hq1, hq2, hq3⟩ := HS1.out.next hpl HDY.out
            rw [HMT.out] at hq1
            have HQ3 := Lib.hid hq3
            have HREC : Hid (∀ W', Below w0.heap.size w0 W' → Calls Tryz.prog 36 #[.int .i64 ((p : Int) + 1), .int .i64 (m : Int), .int .i64 ((o : Int) + 1), .pointer (some ⟨bl, 0, none⟩), .pointer (some ⟨bw, 0, none⟩)] W' fun e w' => e = .returned (.int .i64 (q : Int)) ∧ Below W'.heap.size W' w') := Lib.hid fun W' hW' => by
              have := HIH.out g hg1 (p + 1) m (o + 1) W' (by omega) (by omega) hmx (by omega) (by omega) hW'
              rw [hq1] at this
              exact this
            have hqn : q ≤ n + 1 := by have := HNL.out; omega
            have s1 : IntKind.i64.wrap ((p : Int) + 1) = (p : Int) + 1 := IntWalk.i64_in _ (by omega)
            have s2 : IntKind.i64.wrap ((o : Int) + 1) = (o : Int) + 1 := IntWalk.i64_in _ (by omega)
            clear hq1 hq2 hq3
            go_wp2_with fail
            refine (HC.out _ (Below.refl _ _)).mono ?_; rintro e w5 ⟨rfl, hb⟩
            have f3 := (hb.cell (p := ⟨_, _, none⟩) pl).trans e3
            have f4 := (hb.cell (p := ⟨_, _, none⟩) pw).trans e4
            have f5 := (hb.cell (p := ⟨b, _, none⟩) (lt_of_cell q5)).trans q5
            have HB1 := Lib.hid (HB.out.trans (hb.mono hz))
            have HW5 := Lib.hid (HBW.out.trans (hb.mono HBW.out.size))
            have hz5 := HB1.out.size
            clear hb e3 e4 q0 q1 q2 q3 q4 q5
            go_wp2_with fail
            refine wp_region_held_drew (S := fun W => Below w5.heap.size w5 W ∧ W.cell? ⟨bl, 0, none⟩ = some (.slice (some ⟨b, off, none⟩) n cap) ∧ W.cell? ⟨bw, 0, none⟩ = some (.func (.func 36) #[] #[.pointer (some ⟨bl, 0, none⟩), .pointer (some ⟨bw, 0, none⟩)]) ∧ W.cell? ⟨b, off + p * 6 + 5, none⟩ = some (.int .i64 (m : Int))) (by kernel_rfl) (⟨⟨rfl, rfl, rfl, Nat.le_refl _, fun _ _ => rfl⟩, f3, f4, f5⟩) (fun hHeld => ?_)
            refine tky 0 (some 39) (v := ?_) rfl (by kernel_rfl) (by kernel_rfl) (by kernel_rfl) (fun _ _ _ h => h) ?_ hHeld ?_
            rotate_left
            focus (intro w hSw; (try dsimp only at hSw); go_simp; (try with_reducible rfl); done)
            simp only [Act.put, List.setIfInBounds_toArray, List.set_cons_zero, List.set_cons_succ]
            refine tky 1 (some 40) (v := ?_) rfl (by kernel_rfl) (by kernel_rfl) (by kernel_rfl) (fun _ _ _ h => h) ?_ hHeld ?_
            rotate_left
            focus (intro w hSw; (try dsimp only at hSw); go_simp; (try with_reducible rfl); done)
            simp only [Act.put, List.setIfInBounds_toArray, List.set_cons_zero, List.set_cons_succ]
            refine tky 2 (some 41) (v := ?_) rfl (by kernel_rfl) (by kernel_rfl) (by kernel_rfl) (fun _ _ _ h => h) ?_ hHeld ?_
            rotate_left
            focus (intro w hSw; (try dsimp only at hSw); go_simp; (try with_reducible rfl); done)
            simp only [Act.put, List.setIfInBounds_toArray, List.set_cons_zero, List.set_cons_succ]
            refine tky 3 (some 42) (v := ?_) rfl (by kernel_rfl) (by kernel_rfl) (by kernel_rfl) (fun _ _ _ h => h) ?_ hHeld ?_
            rotate_left
            focus (intro w hSw; (try dsimp only at hSw); go_simp; (try with_reducible rfl); done)
            simp only [Act.put, List.setIfInBounds_toArray, List.set_cons_zero, List.set_cons_succ]
            refine tky 4 (some 43) (v := ?_) rfl (by kernel_rfl) (by kernel_rfl) (by kernel_rfl) (fun _ _ _ h => h) ?_ hHeld ?_
            rotate_left
            focus (intro w hSw; (try dsimp only at hSw); go_simp; (try with_reducible rfl); done)
            simp only [Act.put, List.setIfInBounds_toArray, List.set_cons_zero, List.set_cons_succ]
            refine tky 5 (some 44) (v := ?_) rfl (by kernel_rfl) (by kernel_rfl) (by kernel_rfl) (fun _ _ _ h => h) ?_ hHeld ?_
            rotate_left
            focus (intro w hSw; (try dsimp only at hSw); go_simp; (try with_reducible rfl); done)
            simp only [Act.put, List.setIfInBounds_toArray, List.set_cons_zero, List.set_cons_succ]
            refine tky 6 (some 45) (v := ?_) rfl (by kernel_rfl) (by kernel_rfl) (by kernel_rfl) (fun _ _ _ h => h) ?_ hHeld ?_
            rotate_left
            focus (intro w hSw; (try dsimp only at hSw); go_simp; (try with_reducible rfl); done)
            simp only [Act.put, List.setIfInBounds_toArray, List.set_cons_zero, List.set_cons_succ]
            refine tky 7 (some 46) (v := ?_) rfl (by kernel_rfl) (by kernel_rfl) (by kernel_rfl) (fun _ _ _ h => h) ?_ hHeld ?_
            rotate_left
            focus (intro w hSw; (try dsimp only at hSw); go_simp; (try with_reducible rfl); done)
            simp only [Act.put, List.setIfInBounds_toArray, List.set_cons_zero, List.set_cons_succ]
            refine tky 8 (some 47) (v := ?_) rfl (by kernel_rfl) (by kernel_rfl) (by kernel_rfl) (fun _ _ _ h => h) ?_ hHeld ?_
            rotate_left
            focus (intro w hSw; (try dsimp only at hSw); go_simp; (try with_reducible rfl); done)
            simp only [Act.put, List.setIfInBounds_toArray, List.set_cons_zero, List.set_cons_succ]
            refine tky 9 (some 48) (v := ?_) rfl (by kernel_rfl) (by kernel_rfl) (by kernel_rfl) (fun _ _ _ h => h) ?_ hHeld ?_
            rotate_left
            focus (intro w hSw; (try dsimp only at hSw); go_simp; (try with_reducible rfl); done)
            simp only [Act.put, List.setIfInBounds_toArray, List.set_cons_zero, List.set_cons_succ]
            refine rcons 10 rfl (by kernel_rfl) (fun K hK => ?_)
            go_simp
            refine (HREC.out _ (HW5.out.trans (hHeld.1.mono HW5.out.size))).mono ?_; rintro e w6 ⟨rfl, hb⟩
            (try dsimp only)
            refine hK.out _ _ (⟨hHeld.1.trans (hb.mono hHeld.1.size), (hb.cell (p := ⟨_, _, none⟩) (lt_of_cell hHeld.2.1)).trans hHeld.2.1, (hb.cell (p := ⟨_, _, none⟩) (lt_of_cell hHeld.2.2.1)).trans hHeld.2.2.1, (hb.cell (p := ⟨_, _, none⟩) (lt_of_cell hHeld.2.2.2)).trans hHeld.2.2.2⟩) (fun hHeld2 => ?_)
            clear hK K hHeld
            have hHeld := hHeld2
            clear hHeld2
            (try simp only [Act.put, List.setIfInBounds_toArray, List.set_cons_zero, List.set_cons_succ])
            refine tky 11 (some 0) (v := ?_) rfl (by kernel_rfl) (by kernel_rfl) (by kernel_rfl) (fun _ _ _ h => h) ?_ hHeld ?_
            rotate_left
            focus (intro w hSw; (try dsimp only at hSw); go_simp; (try with_reducible rfl); done)
            simp only [Act.put, List.setIfInBounds_toArray, List.set_cons_zero, List.set_cons_succ]
            refine wpAnyH_done (by kernel_rfl) ?_ _
            have HBN : Hid (Below W.heap.size W _) := Lib.hid (HB1.out.trans (hHeld.1.mono hz5))
            have HQN : Hid (RS L f (r - (j + 1)) o q R) := Lib.hid (by rw [HR1.out]; exact HQ3.out)
            go_wp2_with fail
            go_roundw
            case rel => exact ⟨q, j + 1, rfl, by go_num, by omega, hqn, HQN, HBN⟩
            case measure => simp [intOf]; omega
      · have h1 : decide ((n : Int) ≤ (p : Int)) = true := by rw [decide_eq_true_iff]; omega
        have h1b : decide (n ≤ p) = true := by rw [decide_eq_true_iff]; omega
        have HF : Hid ((n : Int) + 1 = endW L R) := Lib.hid (by rw [HNL.out]; exact HS1.out.out_ (by have := HNL.out; omega))
        clear hex
        go_wp2_with fail
        go_ret
        exact ⟨ret_i HF.out, HB.out⟩
    · have hj2 : j = r := by omega
      have HF : Hid ((p : Int) = endW L R) := Lib.hid (by
        have := HS.out
        rw [hj2, Nat.sub_self] at this
        exact this.done)
      have j1 : ¬ (j : Int) < (r : Int) := by omega
      clear HS hj2
      go_wp2_with fail
      go_ret
      exact ⟨ret_i HF.out, HB.out⟩
theorem dwalk_any (L : List SelD) (sa : Option Addr) (n cap bl bw : Nat) (w0 : World) (hat : SelAt sa n L w0) (hsm : ∀ x ∈ L, SelRm x) (hl : L.length ≤ 100000) (hE : EnvU w0) (hT : EnvT w0)
    (cl : w0.cell? ⟨bl, 0, none⟩ = some (.slice sa n cap)) (cw : w0.cell? ⟨bw, 0, none⟩ = some (.func (.func 36) #[] #[.pointer (some ⟨bl, 0, none⟩), .pointer (some ⟨bw, 0, none⟩)])) :
    ∀ f : Nat, ∀ (p r o : Nat) (W : World), p ≤ L.length → L.length ≤ p + f → (r : Int) ≤ 9223372036854775807 → o ≤ 17 → (0 < r → o ≤ 16) → Below w0.heap.size w0 W →
      Calls Tryz.prog 36 #[.int .i64 (p : Int), .int .i64 (r : Int), .int .i64 (o : Int), .pointer (some ⟨bl, 0, none⟩), .pointer (some ⟨bw, 0, none⟩)] W fun e w' => e = .returned (.int .i64 (endW L (runS L f p r o))) ∧ Below W.heap.size W w' := by
  intro f
  induction f using Nat.strongRecOn with
  | _ f ih =>
    intro p r o W h1 h2 h3 h4 h5 h6
    exact dwalk_step L sa n cap bl bw w0 hat hsm hl hE hT cl cw f (Lib.hid fun g hg p r o W a b c d e f' => ih g hg p r o W a b c d e f') p r o W h1 h2 h3 h4 h5 h6
end Go.Proofs.YtbejhdhhkpllfaaGreatDoor
