/- The reference's Behind against data; all (documents). -/
import Derived.Test.YtbejhdhhkpllfaaGreatDoorXk
set_option linter.unusedSimpArgs false
set_option linter.unusedVariables false
namespace Go.Proofs.YtbejhdhhkpllfaaGreatDoor
open Go.RowKit
theorem rbeh_any (L : List SelD) (b off n c : Nat) (w0 : World) (hrow : RowG 6 SelE ⟨b, off, none⟩ L w0) (hnl : n = L.length) (hn : n ≤ 100000) (hsm : ∀ x ∈ L, SelRm x) :
    ∀ (f p o : Nat) (W : World), p ≤ L.length → L.length ≤ p + 1 + f → o ≤ 16 → Below w0.heap.size w0 W →
      Calls Tryz.prog 65 #[.slice (some ⟨b, off, none⟩) n c, .int .i64 (p : Int), .int .i64 (o : Int)] W fun e w' => e = .returned (.int .i64 (endR (behS L f p o))) ∧ Below W.heap.size W w' := by
  intro f
  induction f using Nat.strongRecOn with
  | _ f ih =>
    intro p o W hp hf ho hW
    by_cases hpl : p < L.length
    · obtain ⟨y0, y1, y2, y3, y4, y5, q0, q1, q2, q3, q4, q5, yy, yz⟩ := Sel_at (RowG.below hrow fun _ _ h => SelE.below h hW) p hpl
      have sm := hsm L[p] (List.getElem_mem hpl)
      obtain ⟨⟨s1, s2, s3, s4⟩, r1, r2, r3⟩ := sm
      have hy1 : y1 = L[p].args.length := by
        rcases yy with ⟨_, _, e, h⟩ | ⟨_, _, _, e, _⟩
        · injection e with _ e _; rw [e, h]; rfl
        · injection e with _ e _
      have e1 : (⟨L[p].als.toArray⟩ : ByteArray).toList = L[p].als := by rw [ByteArray.toList_eq]
      have e2 : (⟨L[p].name.toArray⟩ : ByteArray).toList = L[p].name := by rw [ByteArray.toList_eq]
      obtain ⟨m, hm⟩ : ∃ m, L[p].many.toNat = m := ⟨_, rfl⟩
      have eq : deepB L[p] o = !((decide (L[p].kind.toNat < 1) || decide (3 < L[p].kind.toNat) || decide (L[p].many < 0) || !namedB [] L[p].args || !L[p].dirs.all dirB || (!decide (L[p].kind.toNat = 1) && (!((⟨L[p].als.toArray⟩ : ByteArray).toList == []) || decide ((0 : Int) < (y1 : Int))))) || ((!((⟨L[p].als.toArray⟩ : ByteArray).toList == []) && !nameB L[p].als) || (!nameB L[p].name && (!decide (L[p].kind.toNat = 3) || !((⟨L[p].name.toArray⟩ : ByteArray).toList == [])))) || ((decide (L[p].kind.toNat = 2) && (!(L[p].many == 0) || ((⟨L[p].name.toArray⟩ : ByteArray).toList == [111, 110]))) || (decide (L[p].kind.toNat = 3) && (L[p].many == 0)) || (decide (0 < L[p].many) && ((o : Int) == 16)))) := by
        rw [deepB_bad, e1, e2]
        unfold badS1 badS2 badS3
        have a1 : L[p].als.isEmpty = (L[p].als == []) := by cases L[p].als <;> rfl
        have a2 : L[p].name.isEmpty = (L[p].name == []) := by cases L[p].name <;> rfl
        have a3 : decide (0 < L[p].args.length) = decide ((0 : Int) < (y1 : Int)) := by rw [hy1, Bool.eq_iff_iff]; simp
        have a4 : decide (L[p].many = 0) = (L[p].many == 0) := by rw [Bool.eq_iff_iff, beq_iff_eq, decide_eq_true_iff]
        have a5 : eqB L[p].name onK = (L[p].name == [111, 110]) := (eqB_of (by rw [beq_iff_eq]; rfl)).symm
        have a6 : decide (o = 16) = ((o : Int) == 16) := by rw [Bool.eq_iff_iff, beq_iff_eq, decide_eq_true_iff]; omega
        rw [a1, a2, a3, a4, a5, a6]
      have HA : Hid (∀ W', Below W.heap.size W W' → Calls Tryz.prog 77 #[.slice y0 y1 y2] W' fun e w' => e = .returned (.bool (namedB [] L[p].args)) ∧ Below W'.heap.size W' w') := Lib.hid fun W' hW' => rma_any _ _ W' (ArgSl.below yy hW') s3
      have HD : Hid (∀ W', Below W.heap.size W W' → Calls Tryz.prog 78 #[.slice y3 y4 y5] W' fun e w' => e = .returned (.bool (L[p].dirs.all dirB)) ∧ Below W'.heap.size W' w') := Lib.hid fun W' hW' => rmd_any _ _ W' (DirSlc.dir (DirSlc.below yz hW')) s4
      have HL : Hid (∀ W', Below W.heap.size W W' → Calls Tryz.prog 44 #[.string ⟨L[p].als.toArray⟩] W' fun e w' => e = .returned (.bool (nameB L[p].als)) ∧ Below W'.heap.size W' w') := Lib.hid fun W' _ => calls_below (rname_big _ (by rw [← bsz]; exact s1) W')
      have HN : Hid (∀ W', Below W.heap.size W W' → Calls Tryz.prog 44 #[.string ⟨L[p].name.toArray⟩] W' fun e w' => e = .returned (.bool (nameB L[p].name)) ∧ Below W'.heap.size W' w') := Lib.hid fun W' _ => calls_below (rname_big _ (by rw [← bsz]; exact s2) W')
      have em : ∀ (x : List UInt8), (x == []) = x.isEmpty := fun x => by cases x <;> rfl
      have HMM : Hid (decide (L[p].many < 0) = false → L[p].many = (m : Int)) := Lib.hid fun h => by have := of_decide_eq_false h; omega
      have HMN : Hid (decide (L[p].many < 0) = false → decide (0 < m) = decide (0 < L[p].many) ∧ (m == 0) = (L[p].many == 0) ∧ (m != 0) = !(L[p].many == 0)) := Lib.hid fun h => by
        have := of_decide_eq_false h
        have e : (m == 0) = (L[p].many == 0) := by rw [Bool.eq_iff_iff, beq_iff_eq, beq_iff_eq]; omega
        exact ⟨by rw [Bool.eq_iff_iff, decide_eq_true_iff, decide_eq_true_iff]; omega, e, by rw [bne, e]⟩
      have HM12 : Hid ((L[p].many == 0) = true → decide (0 < L[p].many) = false) := Lib.hid fun h => by have := beq_iff_eq.1 h; exact decide_eq_false (by omega)
      have HM13 : Hid (decide (L[p].many < 0) = false → (L[p].many == 0) = false → decide (0 < L[p].many) = true) := Lib.hid fun h h' => by have := of_decide_eq_false h; have := beq_eq_false_iff_ne.1 h'; exact decide_eq_true (by omega)
      have HMT : Hid (L[p].many.toNat = m) := Lib.hid hm
      have HO15 : Hid (deepB L[p] o = true → m = 0 ∨ o ≤ 15) := Lib.hid fun h => by
        unfold deepB at h
        simp only [Bool.and_eq_true, Bool.not_eq_true', Bool.and_eq_false_iff, decide_eq_false_iff_not] at h
        rcases h.2 with h | h <;> omega
      have hmx : (m : Int) ≤ 9223372036854775807 := by omega
      have HIH : Hid (∀ g, g < f → ∀ (p o : Nat) (W : World), p ≤ L.length → L.length ≤ p + 1 + g → o ≤ 16 → Below w0.heap.size w0 W →
        Calls Tryz.prog 65 #[.slice (some ⟨b, off, none⟩) n c, .int .i64 (p : Int), .int .i64 (o : Int)] W fun e w' => e = .returned (.int .i64 (endR (behS L g p o))) ∧ Below W.heap.size W w') := Lib.hid fun g hg p o W a b c d => ih g hg p o W a b c d
      have HWB := Lib.hid hW
      have HNL := Lib.hid hnl
      generalize hk : L[p].kind.toNat = k at *
      have z1 : ∀ l : List UInt8, (l == []) = true → l = [] := fun l h => by simpa using h
      have z2 : ∀ l : List UInt8, (l == []) = false → ¬ l = [] := fun l h => by simpa using h
      have z3 : ∀ l : List UInt8, (l == [111, 110]) = true → l = [111, 110] := fun l h => beq_iff_eq.1 h
      have z4 : ∀ l : List UInt8, (l == [111, 110]) = false → ¬ l = [111, 110] := fun l h => beq_eq_false_iff_ne.1 h
      by_cases h1 : k = 1
      · subst h1
        exact rbeh_k1 L b off n c p o f m W _ _ _ _ _ _ _ _ _ w0 HWB HNL hn hpl hf ho q0 q1 q2 q3 q4 q5 _ _ _ _ _ _ _ _ _ _ _ _ HA HD HL HN rfl (em _).symm (z1 _) (z2 _) rfl (em _).symm (z1 _) (z2 _) rfl (z3 _) (z4 _) rfl (by rw [Bool.eq_iff_iff]; simp) rfl rfl rfl rfl rfl HMM HMN HM12 HM13 HMT HO15 hmx (Lib.hid (by rw [eq]; rfl)) HIH
      · by_cases h2 : k = 2
        · subst h2
          exact rbeh_k2 L b off n c p o f m W _ _ _ _ _ _ _ _ _ w0 HWB HNL hn hpl hf ho q0 q1 q2 q3 q4 q5 _ _ _ _ _ _ _ _ _ _ _ _ HA HD HL HN rfl (em _).symm (z1 _) (z2 _) rfl (em _).symm (z1 _) (z2 _) rfl (z3 _) (z4 _) rfl (by rw [Bool.eq_iff_iff]; simp) rfl rfl rfl rfl rfl HMM HMN HM12 HM13 HMT HO15 hmx (Lib.hid (by rw [eq]; rfl)) HIH
        · by_cases h3 : k = 3
          · subst h3
            exact rbeh_k3 L b off n c p o f m W _ _ _ _ _ _ _ _ _ w0 HWB HNL hn hpl hf ho q0 q1 q2 q3 q4 q5 _ _ _ _ _ _ _ _ _ _ _ _ HA HD HL HN rfl (em _).symm (z1 _) (z2 _) rfl (em _).symm (z1 _) (z2 _) rfl (z3 _) (z4 _) rfl (by rw [Bool.eq_iff_iff]; simp) rfl rfl rfl rfl rfl HMM HMN HM12 HM13 HMT HO15 hmx (Lib.hid (by rw [eq]; rfl)) HIH
          · have w1 : decide ((k : Int) < 1) = decide (k < 1) := by rw [Bool.eq_iff_iff]; simp; omega
            have w3 : decide ((3 : Int) < (k : Int)) = decide (3 < k) := by rw [Bool.eq_iff_iff]; simp; omega
            exact rbeh_k0 L b off n c p o f m W _ _ _ _ _ _ _ _ _ _ _ _ (decide (k = 1)) (decide (k = 2)) (decide (k = 3)) (by rw [← w1, ← w3]; simp; omega) w1 w3 (by rw [Bool.eq_iff_iff, beq_iff_eq, decide_eq_true_iff]; omega) w0 HWB HNL hn hpl hf ho q0 q1 q2 q3 q4 q5 _ _ _ _ _ _ _ _ _ _ _ _ HA HD HL HN rfl (em _).symm (z1 _) (z2 _) rfl (em _).symm (z1 _) (z2 _) rfl (z3 _) (z4 _) rfl (by rw [Bool.eq_iff_iff]; simp) rfl rfl rfl rfl rfl HMM HMN HM12 HM13 HMT HO15 hmx (Lib.hid eq) HIH
    · have : behS L f p o = none := behS_out L f p o (by omega)
      rw [this]
      exact rbeh_out _ n c p _ (by omega) (by omega) W
set_option maxRecDepth 100000 in
set_option maxHeartbeats 4000000 in
theorem rall_any (L : List SelD) (v : Value) (many : Int) (w : World) (hv : SelSl v L w) (hl : L.length ≤ 100000) (hsm : ∀ x ∈ L, SelRm x) (hmm : -9223372036854775808 ≤ many ∧ many ≤ 9223372036854775807) :
    Calls Tryz.prog 45 #[v, .int .i64 many] w fun e w' => e = .returned (.bool (selsB L many)) ∧ Below w.heap.size w w' := by
  obtain ⟨sa, n, c, rfl⟩ := slg_form' hv
  have HAT := Lib.hid (selAt_of hv)
  have HNL : Hid (n = L.length) := Lib.hid HAT.out.1
  have hn : n ≤ 100000 := by rw [HNL.out]; exact hl
  unfold selsB
  obtain ⟨R, hR⟩ : ∃ R, runS L L.length 0 many.toNat 1 = R := ⟨_, rfl⟩
  obtain ⟨r, hr⟩ : ∃ r, many.toNat = r := ⟨_, rfl⟩
  have hrx : (r : Int) ≤ 9223372036854775807 := by omega
  have hrm : (0 < many → many = (r : Int)) ∧ (¬ 0 < many → r = 0) := by omega
  have HRM := Lib.hid hrm
  have HS0 : Hid (RB L L.length r 1 ((0 : Nat) : Int) R) := Lib.hid (Or.inl ⟨0, L.length, rfl, Nat.zero_le _, by omega, Nat.le_refl _, by rw [← hr]; exact hR⟩)
  have HB : Hid (∀ (g p : Nat) (W : World), p ≤ L.length → L.length ≤ p + 1 + g → Below w.heap.size w W →
      Calls Tryz.prog 65 #[.slice sa n c, .int .i64 (p : Int), .int .i64 1] W fun e w' => e = .returned (.int .i64 (endR (behS L g p 1))) ∧ Below W.heap.size W w') := Lib.hid fun g p W h1 h2 h3 => by
    by_cases hp : p < L.length
    · obtain ⟨b, off, rfl, hrow⟩ := HAT.out.2 (by omega)
      exact rbeh_any L b off n c w hrow HNL.out hn hsm g p 1 W h1 h2 (by omega) h3
    · rw [behS_out L g p 1 (by omega)]
      exact rbeh_out sa n c p 1 (by have := HNL.out; omega) (by omega) W
  rw [hR]
  clear hv hl hsm hR hr hrm
  go_enter Tryz.func45, Tryz.ntmps45
  go_wp2_with fail
  go_loopw [5, 6] (fun at_ ct wr => ∃ (a : Int) (j : Nat), at_ = .int .i64 a ∧ ct = .int .i64 (j : Int) ∧ j ≤ r ∧ -1 ≤ a ∧ a ≤ 100000 ∧ Hid (RB L L.length (r - j) 1 a R) ∧ Hid (Below w.heap.size w wr)) (fun at_ ct wr => r - (intOf ct).toNat)
  case atStart => exact ⟨0, 0, rfl, rfl, Nat.zero_le _, by omega, by omega, HS0, Lib.hid (Below.refl _ _)⟩
  case round =>
    clear HS0
    rename World => wr
    obtain ⟨a, j, rfl, rfl, hj, ha1, ha2, HS, HBV⟩ := hrel
    by_cases hjr : j < r
    · have hmr : many = (r : Int) := by have := HRM.out; omega
      subst hmr
      have j1 : (j : Int) < (r : Int) := by omega
      by_cases ha : 0 ≤ a
      · obtain ⟨r1, hr1⟩ : ∃ r1, r - j = r1 + 1 := ⟨r - j - 1, by omega⟩
        have hs := HS.out
        rw [hr1] at hs
        have hr2 : r - (j + 1) = r1 := by omega
        obtain ⟨p', rfl, hp', hs2⟩ := hs.next ha
        obtain ⟨q, HCL, hq, HS2⟩ : ∃ q : Int, Hid (Calls Tryz.prog 65 #[.slice sa n c, .int .i64 (p' : Int), .int .i64 1] wr fun e w' => e = .returned (.int .i64 q) ∧ Below wr.heap.size wr w') ∧ (-1 ≤ q ∧ q ≤ 100000) ∧ Hid (RB L L.length (r - (j + 1)) 1 q R) := by
          rcases hs2 with ⟨h1, h2⟩ | ⟨g, h1, h2, h3⟩
          · exact ⟨-1, Lib.hid (rbeh_out _ n c p' _ (by have := HNL.out; omega) (by omega) wr), by omega, Lib.hid (by rw [hr2]; exact h2)⟩
          · have hle := h3.le
            exact ⟨endR (behS L g p' 1), Lib.hid (HB.out g p' wr hp' (by omega) HBV.out), by have := HNL.out; omega, Lib.hid (by rw [hr2]; exact h3)⟩
        clear HS hs hs2 hr1 hr2 hp'
        go_wp2_with fail
        refine HCL.out.mono ?_; rintro e w6 ⟨rfl, hb⟩
        have HBN : Hid (Below w.heap.size w w6) := Lib.hid (HBV.out.trans (hb.mono HBV.out.size))
        clear hb HBV
        go_wp2_with fail
        go_roundw
        case rel => exact ⟨q, j + 1, rfl, by go_num, by omega, hq.1, hq.2, HS2, HBN⟩
        case measure => simp [intOf]; omega
      · have HF : Hid ((a == (n : Int)) = decide (R = some L.length)) := Lib.hid (by
          have h := HS.out.neg (by omega)
          cases R with
          | none => rw [Bool.eq_iff_iff, beq_iff_eq, decide_eq_true_iff]; constructor <;> intro h <;> first | omega | cases h
          | some q => rw [h] at ha; exact absurd (show (0 : Int) ≤ endR (some q) from Int.natCast_nonneg q) ha)
        have hr0 : (0 : Int) < (r : Int) := by omega
        have hrd : decide ((0 : Int) < (r : Int)) = true := decide_eq_true hr0
        obtain ⟨tE, htE⟩ : ∃ t, (a == (n : Int)) = t := ⟨_, rfl⟩
        have HF2 : Hid (tE = decide (R = some L.length)) := Lib.hid (by rw [← htE]; exact HF.out)
        have ha3 : ¬ (0 : Int) ≤ a := ha
        clear HS HF
        go_wp2_with fail
        go_ret
        exact ⟨ret_b (by rw [← HF2.out]; try simp), HBV.out⟩
    · have hj2 : r - j = 0 := by omega
      have HF : Hid ((a == (n : Int)) = decide (R = some L.length)) := Lib.hid (by
        have h := HS.out
        rw [hj2] at h
        have h := h.done
        rw [h, HNL.out]
        cases R with
        | none => rw [Bool.eq_iff_iff, beq_iff_eq, decide_eq_true_iff]; unfold endR; constructor <;> intro h <;> first | omega | cases h
        | some q =>
          rw [Bool.eq_iff_iff, beq_iff_eq, decide_eq_true_iff]; unfold endR
          exact ⟨fun h => by have h2 : q = L.length := Int.ofNat_inj.1 h; rw [h2], fun h => by injection h with h; rw [h]⟩)
      obtain ⟨tE, htE⟩ : ∃ t, (a == (n : Int)) = t := ⟨_, rfl⟩
      have HF2 : Hid (tE = decide (R = some L.length)) := Lib.hid (by rw [← htE]; exact HF.out)
      clear HS HF hj2
      have hjm : ¬ (j : Int) < many := by have := HRM.out; omega
      by_cases hm : 0 < many
      · have hmd : decide (0 < many) = true := decide_eq_true hm
        go_wp2_with fail
        go_ret
        exact ⟨ret_b (by rw [← HF2.out]; try simp [hmd]), HBV.out⟩
      · have hmd : decide (0 < many) = false := decide_eq_false hm
        go_wp2_with fail
        go_ret
        exact ⟨ret_b (by simp [hmd]), HBV.out⟩
end Go.Proofs.YtbejhdhhkpllfaaGreatDoor
