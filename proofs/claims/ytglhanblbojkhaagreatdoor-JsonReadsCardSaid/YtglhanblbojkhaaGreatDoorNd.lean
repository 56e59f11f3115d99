/- The walks through the reference's JSON reader (provostref04): digit, digits. -/
import Derived.Test.YtglhanblbojkhaaGreatDoorRy
set_option linter.unusedSimpArgs false
set_option linter.unusedVariables false
namespace Go.Proofs.YtglhanblbojkhaaGreatDoor
open Go.RowKit
set_option maxRecDepth 100000 in
theorem rdigit_any (r : Nat) (s : ByteArray) (at_ : Nat) (v : Value) (e : Int) (ha : at_ ≤ s.size) (hs : s.size ≤ 1000000) (w : World) (h : RdR r s at_ v e w) :
    Calls Tryz.prog 97 #[.pointer (some ⟨r, 0, none⟩)] w fun x w' => x = .returned (.bool (isDig (lookJ e (s.data.toList.drop at_)))) ∧ Below w.heap.size w w' := by
  have HH := Lib.hid h
  have HLA : Hid (∀ W, Below w.heap.size w W → Calls Tryz.prog 48 #[.pointer (some ⟨r, 0, none⟩)] W fun x w' => x = .returned (.int .u8 ((lookJ e (s.data.toList.drop at_)).toNat : Int)) ∧ Below W.heap.size W w') := Lib.hid fun W hW => rlook_any r s at_ v e ha hs W (HH.out.below hW)
  generalize lookJ e (s.data.toList.drop at_) = c at *
  obtain ⟨b, hb⟩ : ∃ b, isDig c = b := ⟨_, rfl⟩
  have HBB : Hid (b = decide (48 ≤ c.toNat ∧ c.toNat ≤ 57)) := Lib.hid hb.symm
  rw [hb]
  clear h hb
  by_cases h1 : 48 ≤ c.toNat
  · have t1 : decide ((48 : Int) ≤ (c.toNat : Int)) = true := decide_eq_true (by omega)
    by_cases h2 : c.toNat ≤ 57
    · have t2 : decide ((c.toNat : Int) ≤ 57) = true := decide_eq_true (by omega)
      have HF : Hid (b = true) := Lib.hid (by rw [HBB.out]; exact decide_eq_true ⟨h1, h2⟩)
      generalize (c.toNat : Int) = ci at *
      clear h1 h2
      go_enter Tryz.func97, Tryz.ntmps97
      go_wp2_with fail
      refine (HLA.out _ (Below.refl _ _)).mono ?_; rintro x w1 ⟨rfl, hb1⟩
      have HB1 := Lib.hid hb1
      clear hb1
      go_wp2_with fail
      refine (HLA.out _ HB1.out).mono ?_; rintro x w2 ⟨rfl, hb2⟩
      have HB2 : Hid (Below w.heap.size w w2) := Lib.hid (HB1.out.trans (hb2.mono HB1.out.size))
      clear hb2
      go_wp2_with fail
      go_ret
      exact ⟨ret_b HF.out.symm, HB2.out⟩
    · have t2 : decide ((c.toNat : Int) ≤ 57) = false := decide_eq_false (by omega)
      have HF : Hid (b = false) := Lib.hid (by rw [HBB.out]; exact decide_eq_false (by omega))
      generalize (c.toNat : Int) = ci at *
      clear h1 h2
      go_enter Tryz.func97, Tryz.ntmps97
      go_wp2_with fail
      refine (HLA.out _ (Below.refl _ _)).mono ?_; rintro x w1 ⟨rfl, hb1⟩
      have HB1 := Lib.hid hb1
      clear hb1
      go_wp2_with fail
      refine (HLA.out _ HB1.out).mono ?_; rintro x w2 ⟨rfl, hb2⟩
      have HB2 : Hid (Below w.heap.size w w2) := Lib.hid (HB1.out.trans (hb2.mono HB1.out.size))
      clear hb2
      go_wp2_with fail
      go_ret
      exact ⟨ret_b HF.out.symm, HB2.out⟩
  · have t1 : decide ((48 : Int) ≤ (c.toNat : Int)) = false := decide_eq_false (by omega)
    have HF : Hid (b = false) := Lib.hid (by rw [HBB.out]; exact decide_eq_false (by omega))
    generalize (c.toNat : Int) = ci at *
    clear h1
    go_enter Tryz.func97, Tryz.ntmps97
    go_wp2_with fail
    refine (HLA.out _ (Below.refl _ _)).mono ?_; rintro x w1 ⟨rfl, hb1⟩
    have HB1 := Lib.hid hb1
    clear hb1
    go_wp2_with fail
    go_ret
    exact ⟨ret_b HF.out.symm, HB1.out⟩
theorem isDig0 : isDig 0 = false := by decide
/-- Where digits end. -/
def digK (e : Int) (l : List UInt8) : Nat := if e = 0 then (l.takeWhile isDig).length else 0
theorem digK_stop {e : Int} {l : List UInt8} (h : isDig (lookJ e l) = false) : digK e l = 0 := by
  unfold digK
  by_cases he : e = 0
  · rw [if_pos he]
    unfold lookJ at h
    rw [if_neg (by simp [he])] at h
    cases l with
    | nil => rfl
    | cons c t => rw [List.takeWhile_cons, if_neg (by simpa using h)]; rfl
  · rw [if_neg he]
theorem digK_go {e : Int} {s : ByteArray} {a : Nat} (h : isDig (lookJ e (s.data.toList.drop a)) = true) : e = 0 ∧ a < s.size ∧ digK e (s.data.toList.drop a) = 1 + digK e (s.data.toList.drop (a + 1)) := by
  by_cases he : e = 0
  · unfold lookJ at h
    rw [if_neg (by simp [he])] at h
    by_cases hlt : a < s.size
    · refine ⟨he, hlt, ?_⟩
      rw [drop_at s a hlt] at h ⊢
      rw [List.headD_cons] at h
      unfold digK
      rw [if_pos he, if_pos he, List.takeWhile_cons, if_pos h, List.length_cons]
      omega
    · rw [List.drop_eq_nil_of_le (by rw [Array.length_toList]; show s.size ≤ _; omega)] at h
      exact absurd h (by decide)
  · unfold lookJ at h
    rw [if_pos he, isDig0] at h
    cases h
set_option maxRecDepth 100000 in
set_option maxHeartbeats 1000000 in
theorem rdigits_any (r : Nat) (s : ByteArray) (at_ : Nat) (v : Value) (e : Int) (ha : at_ ≤ s.size) (hs : s.size ≤ 1000000) (w : World) (h : RdR r s at_ v e w) :
    Calls Tryz.prog 75 #[.pointer (some ⟨r, 0, none⟩)] w fun x w' => x = .returned (.tuple #[]) ∧ (at_ + digK e (s.data.toList.drop at_) ≤ s.size ∧ RdR r s (at_ + digK e (s.data.toList.drop at_)) v (if e = 0 ∧ digK e (s.data.toList.drop at_) = 0 then 40 else e) w') ∧ RK r w w' := by
  have HH := Lib.hid h
  obtain ⟨K, hK⟩ : ∃ K, at_ + digK e (s.data.toList.drop at_) = K := ⟨_, rfl⟩
  obtain ⟨f, hf⟩ : ∃ f, (if e = 0 ∧ digK e (s.data.toList.drop at_) = 0 then (40 : Int) else e) = f := ⟨_, rfl⟩
  have HDG : Hid (∀ (a : Nat) (e : Int), a ≤ s.size → ∀ W, RdR r s a v e W → Calls Tryz.prog 97 #[.pointer (some ⟨r, 0, none⟩)] W fun x w' => x = .returned (.bool (isDig (lookJ e (s.data.toList.drop a)))) ∧ Below W.heap.size W w') := Lib.hid fun a e h1 W h2 => rdigit_any r s a v e h1 hs W h2
  have hlt0 := h.lt
  rw [hK, hf]
  have HD0 := Lib.hid (HDG.out at_ e ha w HH.out)
  -- the loop, from wherever
  have HLOOP : Hid (at_ + digK f (s.data.toList.drop at_) = K) := Lib.hid (by
    rw [← hK, ← hf]
    by_cases hc : e = 0 ∧ digK e (s.data.toList.drop at_) = 0
    · rw [if_pos hc, hc.2]; unfold digK; rw [if_neg (by decide)]
    · rw [if_neg hc])
  cases hd : isDig (lookJ e (s.data.toList.drop at_)) with
  | true =>
    have hfe : f = e := by
      rw [← hf, if_neg]
      intro hh
      have := (digK_go hd).2.2
      omega
    rw [hd] at HD0
    subst hfe
    clear h hK hf hd
    go_enter Tryz.func75, Tryz.ntmps75
    go_wp2_with fail
    refine HD0.out.mono ?_; rintro x w1 ⟨rfl, hb1⟩
    have HR1 := Lib.hid (HH.out.below hb1)
    have HK1 := Lib.hid (RK.of_below hb1 hlt0)
    clear hb1
    go_wp2_with fail
    go_loopg [] (s.size - at_) (fun gk wr => ∃ a : Nat, a ≤ s.size ∧ (gk + a ≤ s.size ∧ s.size ≤ gk + a) ∧ Hid (a + digK f (s.data.toList.drop a) = K) ∧ Hid (RdR r s a v f wr) ∧ Hid (RK r w wr))
    case atStart => exact ⟨at_, ha, ⟨by omega, by omega⟩, HLOOP, HR1, HK1⟩
    case round =>
      rename World => wr
      obtain ⟨a, hal, ⟨hg, hg'⟩, HL, HR, HK⟩ := hrel
      have HD := Lib.hid (HDG.out a f hal wr HR.out)
      have hltr := HR.out.lt
      cases hd : isDig (lookJ f (s.data.toList.drop a)) with
      | true =>
        obtain ⟨hf0, hal2, hst⟩ := digK_go hd
        have HLN : Hid ((a + 1) + digK f (s.data.toList.drop (a + 1)) = K) := Lib.hid (by rw [← HL.out, hst]; omega)
        rw [hd] at HD
        clear hst hd
        go_wp2_with fail
        refine HD.out.mono ?_; rintro x w3 ⟨rfl, hb⟩
        have HRN := Lib.hid (HR.out.below hb)
        have HKN := Lib.hid (HK.out.trans (RK.of_below hb hltr))
        clear hb
        obtain ⟨c0, c1, c2, c3⟩ := HRN.out.cells
        have f1 := HRN.out.frozen 1
        go_wp2_with fail
        rw [show ((a : Int) + 1) = ((a + 1 : Nat) : Int) from by omega]
        have HRM := Lib.hid (HRN.out.at_ (a + 1))
        have HKM := Lib.hid (HKN.out.trans (RK.set r 1 _ (.int .i64 ((a + 1 : Nat) : Int))))
        go_roundg (gk - 1)
        case measure => omega
        case rel => exact ⟨a + 1, by omega, ⟨by omega, by omega⟩, HLN, HRM, HKM⟩
      | false =>
        have hz := digK_stop hd
        have haK : a = K := by have := HL.out; omega
        rw [hd] at HD
        clear hz hd
        subst haK
        go_wp2_with fail
        refine HD.out.mono ?_; rintro x w3 ⟨rfl, hb⟩
        have HF : Hid ((a ≤ s.size ∧ RdR r s a v f w3) ∧ RK r w w3) := Lib.hid ⟨⟨hal, HR.out.below hb⟩, HK.out.trans (RK.of_below hb hltr)⟩
        clear hb
        go_wp2_with fail
        go_end0
        exact ⟨rfl, HF.out⟩
  | false =>
    have HFA : Hid (∀ W, RdR r s at_ v e W → Calls Tryz.prog 27 #[.pointer (some ⟨r, 0, none⟩), .int .i64 40] W fun x w' => x = .returned (.tuple #[]) ∧ RdR r s at_ v f w' ∧ RK r W w') := Lib.hid fun W hW => by
      have := rfail_any r s at_ v e 40 W hW
      rw [show (if e = 0 then (40 : Int) else e) = f from by
        rw [← hf]
        by_cases he : e = 0
        · rw [if_pos he, if_pos ⟨he, digK_stop hd⟩]
        · rw [if_neg he, if_neg (fun h => he h.1)]] at this
      exact this
    rw [hd] at HD0
    clear h hK hf hd
    go_enter Tryz.func75, Tryz.ntmps75
    go_wp2_with fail
    refine HD0.out.mono ?_; rintro x w0 ⟨rfl, hb1⟩
    have HR0 := Lib.hid (HH.out.below hb1)
    have HK0 := Lib.hid (RK.of_below hb1 hlt0)
    clear hb1
    go_wp2_with fail
    refine (HFA.out _ HR0.out).mono ?_; rintro x w1 ⟨rfl, hr, hk⟩
    have HR1 := Lib.hid hr
    have HK1 := Lib.hid (HK0.out.trans hk)
    clear hr hk
    go_wp2_with fail
    go_loopg [] (s.size - at_) (fun gk wr => ∃ a : Nat, a ≤ s.size ∧ (gk + a ≤ s.size ∧ s.size ≤ gk + a) ∧ Hid (a + digK f (s.data.toList.drop a) = K) ∧ Hid (RdR r s a v f wr) ∧ Hid (RK r w wr))
    case atStart => exact ⟨at_, ha, ⟨by omega, by omega⟩, HLOOP, HR1, HK1⟩
    case round =>
      rename World => wr
      obtain ⟨a, hal, ⟨hg, hg'⟩, HL, HR, HK⟩ := hrel
      have HD := Lib.hid (HDG.out a f hal wr HR.out)
      have hltr := HR.out.lt
      cases hd : isDig (lookJ f (s.data.toList.drop a)) with
      | true =>
        obtain ⟨hf0, hal2, hst⟩ := digK_go hd
        have HLN : Hid ((a + 1) + digK f (s.data.toList.drop (a + 1)) = K) := Lib.hid (by rw [← HL.out, hst]; omega)
        rw [hd] at HD
        clear hst hd
        go_wp2_with fail
        refine HD.out.mono ?_; rintro x w3 ⟨rfl, hb⟩
        have HRN := Lib.hid (HR.out.below hb)
        have HKN := Lib.hid (HK.out.trans (RK.of_below hb hltr))
        clear hb
        obtain ⟨c0, c1, c2, c3⟩ := HRN.out.cells
        have f1 := HRN.out.frozen 1
        go_wp2_with fail
        rw [show ((a : Int) + 1) = ((a + 1 : Nat) : Int) from by omega]
        have HRM := Lib.hid (HRN.out.at_ (a + 1))
        have HKM := Lib.hid (HKN.out.trans (RK.set r 1 _ (.int .i64 ((a + 1 : Nat) : Int))))
        go_roundg (gk - 1)
        case measure => omega
        case rel => exact ⟨a + 1, by omega, ⟨by omega, by omega⟩, HLN, HRM, HKM⟩
      | false =>
        have hz := digK_stop hd
        have haK : a = K := by have := HL.out; omega
        rw [hd] at HD
        clear hz hd
        subst haK
        go_wp2_with fail
        refine HD.out.mono ?_; rintro x w3 ⟨rfl, hb⟩
        have HF : Hid ((a ≤ s.size ∧ RdR r s a v f w3) ∧ RK r w w3) := Lib.hid ⟨⟨hal, HR.out.below hb⟩, HK.out.trans (RK.of_below hb hltr)⟩
        clear hb
        go_wp2_with fail
        go_end0
        exact ⟨rfl, HF.out⟩
end Go.Proofs.YtglhanblbojkhaaGreatDoor
