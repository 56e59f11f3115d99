/- The walks through the reference's JSON reader (provostref04): look, fail, blanks. -/
import Derived.Test.YtglhanblbojkhaaGreatDoorRt
import Derived.Deep.LoopGhost
set_option linter.unusedSimpArgs false
set_option linter.unusedVariables false
namespace Go.Proofs.YtglhanblbojkhaaGreatDoor
open Go.RowKit
theorem rlook_any (r : Nat) (s : ByteArray) (at_ : Nat) (v : Value) (e : Int) (ha : at_ ≤ s.size) (hs : s.size ≤ 1000000) (w : World) (h : RdR r s at_ v e w) :
    Calls Tryz.prog 48 #[.pointer (some ⟨r, 0, none⟩)] w fun x w' => x = .returned (.int .u8 ((lookJ e (s.data.toList.drop at_)).toNat : Int)) ∧ Below w.heap.size w w' := by
  unfold lookJ
  by_cases he : e = 0
  · subst he
    rw [if_neg (by simp)]
    by_cases hlt : at_ < s.size
    · rw [drop_at s at_ hlt]
      exact rlook_at r s at_ v hlt hs w h
    · rw [List.drop_eq_nil_of_le (by rw [Array.length_toList]; show s.size ≤ _; omega)]
      exact rlook_end r s at_ v (by omega) hs w h
  · rw [if_pos he]
    exact rlook_err r s at_ v e he w h
set_option maxRecDepth 100000 in
theorem rfail_any (r : Nat) (s : ByteArray) (at_ : Nat) (v : Value) (e a : Int) (w : World) (h : RdR r s at_ v e w) :
    Calls Tryz.prog 27 #[.pointer (some ⟨r, 0, none⟩), .int .i64 a] w fun x w' => x = .returned (.tuple #[]) ∧ RdR r s at_ v (if e = 0 then a else e) w' ∧ RK r w w' := by
  obtain ⟨c0, c1, c2, c3⟩ := h.cells
  have f3 := h.frozen 3
  have HH := Lib.hid h
  by_cases he : e = 0
  · subst he
    rw [if_pos rfl]
    clear h
    go_enter Tryz.func27, Tryz.ntmps27
    go_wp2_with fail
    go_end0
    exact ⟨rfl, HH.out.err a, RK.set _ _ _ _⟩
  · rw [if_neg he]
    clear h
    go_enter Tryz.func27, Tryz.ntmps27
    go_wp2_with fail
    go_end0
    exact ⟨rfl, HH.out, RK.refl _ _⟩
theorem blJ_head (l : List UInt8) (h : blankJ (l.headD 0) = false) : blJ l = l := by
  unfold blJ
  cases l with
  | nil => rfl
  | cons c t => rw [List.dropWhile_cons, if_neg]; simpa using h
theorem blJ_step (c : UInt8) (t : List UInt8) (h : blankJ c = true) : blJ (c :: t) = blJ t := by
  unfold blJ
  rw [List.dropWhile_cons, if_pos h]
theorem byte_ne {c : UInt8} {n : Nat} (hn : n < 256) (h : c ≠ UInt8.ofNat n) : ((c.toNat : Int) == (n : Int)) = false := by
  refine beq_eq_false_iff_ne.2 fun e => h ?_
  refine UInt8.toNat_inj.1 ?_
  rw [UInt8.toNat_ofNat']
  omega
set_option maxRecDepth 100000 in
set_option maxHeartbeats 1000000 in
theorem rblanks_any (r : Nat) (s : ByteArray) (at_ : Nat) (v : Value) (e : Int) (ha : at_ ≤ s.size) (hs : s.size ≤ 1000000) (w : World) (h : RdR r s at_ v e w) :
    Calls Tryz.prog 26 #[.pointer (some ⟨r, 0, none⟩)] w fun x w' => x = .returned (.tuple #[]) ∧ (∃ a, a ≤ s.size ∧ (e = 0 → s.data.toList.drop a = blJ (s.data.toList.drop at_)) ∧ RdR r s a v e w') ∧ RK r w w' := by
  have HH := Lib.hid h
  obtain ⟨L, hL⟩ : ∃ L, blJ (s.data.toList.drop at_) = L := ⟨_, rfl⟩
  rw [hL]
  have HL0 : Hid (e = 0 → blJ (s.data.toList.drop at_) = L) := Lib.hid fun _ => hL
  have HLK : Hid (∀ a, a ≤ s.size → ∀ W, RdR r s a v e W → Calls Tryz.prog 48 #[.pointer (some ⟨r, 0, none⟩)] W fun x w' => x = .returned (.int .u8 ((lookJ e (s.data.toList.drop a)).toNat : Int)) ∧ Below W.heap.size W w') := Lib.hid fun a h1 W h2 => rlook_any r s a v e h1 hs W h2
  clear h hL
  go_enter Tryz.func26, Tryz.ntmps26
  go_wp2_with fail
  go_loopg [] (s.size - at_) (fun gk wr => ∃ a : Nat, a ≤ s.size ∧ (gk + a ≤ s.size ∧ s.size ≤ gk + a) ∧ Hid (e = 0 → blJ (s.data.toList.drop a) = L) ∧ Hid (RdR r s a v e wr) ∧ Hid (RK r w wr))
  case atStart => exact ⟨at_, ha, ⟨by omega, by omega⟩, HL0, HH, Lib.hid (RK.refl _ _)⟩
  case round =>
    rename World => wr
    obtain ⟨a, hal, ⟨hg, hg'⟩, HL, HR, HK⟩ := hrel
    have hlt := HR.out.lt
    have HLA : Hid (∀ W, Below wr.heap.size wr W → Calls Tryz.prog 48 #[.pointer (some ⟨r, 0, none⟩)] W fun x w' => x = .returned (.int .u8 ((lookJ e (s.data.toList.drop a)).toNat : Int)) ∧ Below W.heap.size W w') := Lib.hid fun W hW => HLK.out a hal W (HR.out.below hW)
    have hstep : ∀ c : UInt8, lookJ e (s.data.toList.drop a) = c → c ≠ 0 → e = 0 ∧ a < s.size ∧ s.data.toList.drop a = c :: s.data.toList.drop (a + 1) := by
      intro c h1 h2
      unfold lookJ at h1
      split at h1
      · exact absurd h1.symm h2
      · rename_i he
        have he0 : e = 0 := by simpa using he
        by_cases hlt2 : a < s.size
        · rw [drop_at s a hlt2] at h1 ⊢
          rw [List.headD_cons] at h1
          rw [h1]
          exact ⟨he0, hlt2, rfl⟩
        · rw [List.drop_eq_nil_of_le (by rw [Array.length_toList]; show s.size ≤ _; omega)] at h1
          exact absurd h1.symm h2
    have hstop : blankJ (lookJ e (s.data.toList.drop a)) = false → e = 0 → s.data.toList.drop a = L := by
      intro h1 h2
      rw [← HL.out h2]
      unfold lookJ at h1
      rw [if_neg (by simp [h2])] at h1
      exact (blJ_head _ h1).symm
    have HST := Lib.hid hstep
    have HSP := Lib.hid hstop
    clear hstep hstop
    generalize lookJ e (s.data.toList.drop a) = c at *
    by_cases hc : c = UInt8.ofNat 32
    · subst hc
      obtain ⟨he0, hal2, hdr⟩ := HST.out _ rfl (by decide)
      have HLN : Hid (e = 0 → blJ (s.data.toList.drop (a + 1)) = L) := Lib.hid fun h => by
        have := HL.out h
        rw [hdr, blJ_step _ _ (by decide)] at this
        exact this
      clear hdr
      rw [show (((UInt8.ofNat 32).toNat : Nat) : Int) = 32 from rfl] at HLA
      go_wp2_with fail
      refine (HLA.out _ (Below.refl _ _)).mono ?_; rintro x w1 ⟨rfl, hb⟩
      have HB1 := Lib.hid hb
      clear hb
      have HRN := Lib.hid (HR.out.below HB1.out)
      obtain ⟨c0, c1, c2, c3⟩ := HRN.out.cells
      have f1 := HRN.out.frozen 1
      go_wp2_with fail
      have HRM : Hid (RdR r s (a + 1) v e (w1.setCell ⟨r, 1, none⟩ (.int .i64 ((a + 1 : Nat) : Int)))) := Lib.hid (HRN.out.at_ (a + 1))
      have HKM : Hid (RK r w (w1.setCell ⟨r, 1, none⟩ (.int .i64 ((a + 1 : Nat) : Int)))) := Lib.hid ((HK.out.trans (RK.of_below HB1.out hlt)).trans (RK.set _ _ _ _))
      rw [show ((a : Int) + 1) = ((a + 1 : Nat) : Int) from by omega]
      go_roundg (gk - 1)
      case measure => omega
      case rel => exact ⟨a + 1, by omega, ⟨by omega, by omega⟩, HLN, HRM, HKM⟩
    have t1 : ((c.toNat : Int) == 32) = false := byte_ne (n := 32) (by decide) hc
    have n1 : (c == 32) = false := beq_eq_false_iff_ne.2 hc
    clear hc
    by_cases hc : c = UInt8.ofNat 9
    · subst hc
      obtain ⟨he0, hal2, hdr⟩ := HST.out _ rfl (by decide)
      have HLN : Hid (e = 0 → blJ (s.data.toList.drop (a + 1)) = L) := Lib.hid fun h => by
        have := HL.out h
        rw [hdr, blJ_step _ _ (by decide)] at this
        exact this
      clear hdr
      rw [show (((UInt8.ofNat 9).toNat : Nat) : Int) = 9 from rfl] at HLA
      go_wp2_with fail
      refine (HLA.out _ (Below.refl _ _)).mono ?_; rintro x w1 ⟨rfl, hb⟩
      have HB1 := Lib.hid hb
      clear hb
      go_wp2_with fail
      refine (HLA.out _ HB1.out).mono ?_; rintro x w2 ⟨rfl, hb⟩
      have HB2 : Hid (Below wr.heap.size wr w2) := Lib.hid (HB1.out.trans (hb.mono HB1.out.size))
      clear hb
      have HRN := Lib.hid (HR.out.below HB2.out)
      obtain ⟨c0, c1, c2, c3⟩ := HRN.out.cells
      have f1 := HRN.out.frozen 1
      go_wp2_with fail
      have HRM : Hid (RdR r s (a + 1) v e (w2.setCell ⟨r, 1, none⟩ (.int .i64 ((a + 1 : Nat) : Int)))) := Lib.hid (HRN.out.at_ (a + 1))
      have HKM : Hid (RK r w (w2.setCell ⟨r, 1, none⟩ (.int .i64 ((a + 1 : Nat) : Int)))) := Lib.hid ((HK.out.trans (RK.of_below HB2.out hlt)).trans (RK.set _ _ _ _))
      rw [show ((a : Int) + 1) = ((a + 1 : Nat) : Int) from by omega]
      go_roundg (gk - 1)
      case measure => omega
      case rel => exact ⟨a + 1, by omega, ⟨by omega, by omega⟩, HLN, HRM, HKM⟩
    have t2 : ((c.toNat : Int) == 9) = false := byte_ne (n := 9) (by decide) hc
    have n2 : (c == 9) = false := beq_eq_false_iff_ne.2 hc
    clear hc
    by_cases hc : c = UInt8.ofNat 10
    · subst hc
      obtain ⟨he0, hal2, hdr⟩ := HST.out _ rfl (by decide)
      have HLN : Hid (e = 0 → blJ (s.data.toList.drop (a + 1)) = L) := Lib.hid fun h => by
        have := HL.out h
        rw [hdr, blJ_step _ _ (by decide)] at this
        exact this
      clear hdr
      rw [show (((UInt8.ofNat 10).toNat : Nat) : Int) = 10 from rfl] at HLA
      go_wp2_with fail
      refine (HLA.out _ (Below.refl _ _)).mono ?_; rintro x w1 ⟨rfl, hb⟩
      have HB1 := Lib.hid hb
      clear hb
      go_wp2_with fail
      refine (HLA.out _ HB1.out).mono ?_; rintro x w2 ⟨rfl, hb⟩
      have HB2 : Hid (Below wr.heap.size wr w2) := Lib.hid (HB1.out.trans (hb.mono HB1.out.size))
      clear hb
      go_wp2_with fail
      refine (HLA.out _ HB2.out).mono ?_; rintro x w3 ⟨rfl, hb⟩
      have HB3 : Hid (Below wr.heap.size wr w3) := Lib.hid (HB2.out.trans (hb.mono HB2.out.size))
      clear hb
      have HRN := Lib.hid (HR.out.below HB3.out)
      obtain ⟨c0, c1, c2, c3⟩ := HRN.out.cells
      have f1 := HRN.out.frozen 1
      go_wp2_with fail
      have HRM : Hid (RdR r s (a + 1) v e (w3.setCell ⟨r, 1, none⟩ (.int .i64 ((a + 1 : Nat) : Int)))) := Lib.hid (HRN.out.at_ (a + 1))
      have HKM : Hid (RK r w (w3.setCell ⟨r, 1, none⟩ (.int .i64 ((a + 1 : Nat) : Int)))) := Lib.hid ((HK.out.trans (RK.of_below HB3.out hlt)).trans (RK.set _ _ _ _))
      rw [show ((a : Int) + 1) = ((a + 1 : Nat) : Int) from by omega]
      go_roundg (gk - 1)
      case measure => omega
      case rel => exact ⟨a + 1, by omega, ⟨by omega, by omega⟩, HLN, HRM, HKM⟩
    have t3 : ((c.toNat : Int) == 10) = false := byte_ne (n := 10) (by decide) hc
    have n3 : (c == 10) = false := beq_eq_false_iff_ne.2 hc
    clear hc
    by_cases hc : c = UInt8.ofNat 13
    · subst hc
      obtain ⟨he0, hal2, hdr⟩ := HST.out _ rfl (by decide)
      have HLN : Hid (e = 0 → blJ (s.data.toList.drop (a + 1)) = L) := Lib.hid fun h => by
        have := HL.out h
        rw [hdr, blJ_step _ _ (by decide)] at this
        exact this
      clear hdr
      rw [show (((UInt8.ofNat 13).toNat : Nat) : Int) = 13 from rfl] at HLA
      go_wp2_with fail
      refine (HLA.out _ (Below.refl _ _)).mono ?_; rintro x w1 ⟨rfl, hb⟩
      have HB1 := Lib.hid hb
      clear hb
      go_wp2_with fail
      refine (HLA.out _ HB1.out).mono ?_; rintro x w2 ⟨rfl, hb⟩
      have HB2 : Hid (Below wr.heap.size wr w2) := Lib.hid (HB1.out.trans (hb.mono HB1.out.size))
      clear hb
      go_wp2_with fail
      refine (HLA.out _ HB2.out).mono ?_; rintro x w3 ⟨rfl, hb⟩
      have HB3 : Hid (Below wr.heap.size wr w3) := Lib.hid (HB2.out.trans (hb.mono HB2.out.size))
      clear hb
      go_wp2_with fail
      refine (HLA.out _ HB3.out).mono ?_; rintro x w4 ⟨rfl, hb⟩
      have HB4 : Hid (Below wr.heap.size wr w4) := Lib.hid (HB3.out.trans (hb.mono HB3.out.size))
      clear hb
      have HRN := Lib.hid (HR.out.below HB4.out)
      obtain ⟨c0, c1, c2, c3⟩ := HRN.out.cells
      have f1 := HRN.out.frozen 1
      go_wp2_with fail
      have HRM : Hid (RdR r s (a + 1) v e (w4.setCell ⟨r, 1, none⟩ (.int .i64 ((a + 1 : Nat) : Int)))) := Lib.hid (HRN.out.at_ (a + 1))
      have HKM : Hid (RK r w (w4.setCell ⟨r, 1, none⟩ (.int .i64 ((a + 1 : Nat) : Int)))) := Lib.hid ((HK.out.trans (RK.of_below HB4.out hlt)).trans (RK.set _ _ _ _))
      rw [show ((a : Int) + 1) = ((a + 1 : Nat) : Int) from by omega]
      go_roundg (gk - 1)
      case measure => omega
      case rel => exact ⟨a + 1, by omega, ⟨by omega, by omega⟩, HLN, HRM, HKM⟩
    have t4 : ((c.toNat : Int) == 13) = false := byte_ne (n := 13) (by decide) hc
    have n4 : (c == 13) = false := beq_eq_false_iff_ne.2 hc
    clear hc
    have HF : Hid (e = 0 → s.data.toList.drop a = L) := Lib.hid (HSP.out (by unfold blankJ; rw [n1, n2, n3, n4]; rfl))
    clear n1 n2 n3 n4
    generalize (c.toNat : Int) = ci at *
    go_wp2_with fail
    refine (HLA.out _ (Below.refl _ _)).mono ?_; rintro x w1 ⟨rfl, hb⟩
    have HB1 := Lib.hid hb
    clear hb
    go_wp2_with fail
    refine (HLA.out _ HB1.out).mono ?_; rintro x w2 ⟨rfl, hb⟩
    have HB2 : Hid (Below wr.heap.size wr w2) := Lib.hid (HB1.out.trans (hb.mono HB1.out.size))
    clear hb
    go_wp2_with fail
    refine (HLA.out _ HB2.out).mono ?_; rintro x w3 ⟨rfl, hb⟩
    have HB3 : Hid (Below wr.heap.size wr w3) := Lib.hid (HB2.out.trans (hb.mono HB2.out.size))
    clear hb
    go_wp2_with fail
    refine (HLA.out _ HB3.out).mono ?_; rintro x w4 ⟨rfl, hb⟩
    have HB4 : Hid (Below wr.heap.size wr w4) := Lib.hid (HB3.out.trans (hb.mono HB3.out.size))
    clear hb
    have HRN := Lib.hid (HR.out.below HB4.out)
    have HKN := Lib.hid (HK.out.trans (RK.of_below HB4.out hlt))
    go_wp2_with fail
    go_end0
    exact ⟨rfl, ⟨a, hal, HF.out, HRN.out⟩, HKN.out⟩
end Go.Proofs.YtglhanblbojkhaaGreatDoor
