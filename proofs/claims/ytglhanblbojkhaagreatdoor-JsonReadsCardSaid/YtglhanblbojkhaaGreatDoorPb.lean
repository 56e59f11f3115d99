/- The walk through the program's JSON reader (json): part. -/
import Derived.Test.YtglhanblbojkhaaGreatDoorPa
set_option linter.unusedSimpArgs false
set_option linter.unusedVariables false
namespace Go.Proofs.YtglhanblbojkhaaGreatDoor
open Go.RowKit Go.Lib
theorem tl_nil {b : ByteArray} (h : b.data.toList = []) : b.toList = [] := by rw [ByteArray.toList_eq]; exact h
theorem tl_cons {b : ByteArray} {c : UInt8} {r : List UInt8} (h : b.data.toList = c :: r) : ¬ b.toList = [] ∧ b.toList.isEmpty = false ∧ (b.toList == []) = false ∧ 0 < b.size ∧ b.size = r.length + 1 := by
  have e : b.toList = c :: r := by rw [ByteArray.toList_eq]; exact h
  have hs : b.size = r.length + 1 := by rw [← bsz, h]; rfl
  rw [e]
  exact ⟨by simp, rfl, rfl, by omega, hs⟩
theorem at_zero {b : ByteArray} {c : UInt8} {r : List UInt8} (h : b.data.toList = c :: r) (h0 : 0 < b.size) : b[0]'h0 = c := by
  have := drop_at b 0 h0
  rw [List.drop_zero, h] at this
  injection this with e; exact e.symm
theorem ext_one {b : ByteArray} {c : UInt8} {r : List UInt8} (h : b.data.toList = c :: r) (n : Nat) (hn : n = b.size) : (b.extract 1 n).data.toList = r := by
  have h5 := ext_list b 1 r.length
  have hs : b.size = r.length + 1 := by rw [← bsz, h]; rfl
  rw [show 1 + r.length = n from by omega, ByteArray.toList_eq, h, List.drop_succ_cons, List.drop_zero, List.take_length] at h5
  exact h5
theorem pj_no {mark sign : UInt8 → Bool} {c : UInt8} (r : List UInt8) (h : mark c = false) : partJ mark sign (c :: r) = none := by simp [partJ, h]
theorem pj_yes {mark sign : UInt8 → Bool} {c : UInt8} (r : List UInt8) (h : mark c = true) (hs : (r.head?.map sign).getD false = false) : partJ mark sign (c :: r) = if (r.takeWhile isDig).isEmpty then none else some (r.dropWhile isDig) := by
  simp only [partJ, h, hs, if_true, Bool.false_eq_true, if_false]
theorem pj_sign {mark sign : UInt8 → Bool} {c d : UInt8} (r : List UInt8) (h : mark c = true) (hs : sign d = true) : partJ mark sign (c :: d :: r) = if (r.takeWhile isDig).isEmpty then none else some (r.dropWhile isDig) := by
  simp only [partJ, h, hs, if_true, List.head?_cons, Option.map_some, Option.getD_some, List.tail_cons]
theorem ix_any (s : ByteArray) (c : UInt8) (w : World) :
    Calls Tryz.prog 39 #[.string s, .int .u8 (c.toNat : Int)] w fun e w' => e = .returned (.int .i64 (Lib.indexByte s.data.toList c)) ∧ w = w' :=
  (Tryz.strings_IndexByte s (c.toNat : Int) w).mono fun e w' ⟨he, hw⟩ => ⟨by
    rw [he, show ((c.toNat : Int).toNat.toUInt8) = c from by rw [Int.toNat_natCast]; exact UInt8.ofNat_toNat], hw.symm⟩
set_option maxRecDepth 100000 in
set_option maxHeartbeats 4000000 in
theorem p_part (p : Nat) (l : List UInt8) (marks signs : ByteArray) (mark sign : UInt8 → Bool) (hm : ∀ c, decide (0 ≤ Lib.indexByte marks.data.toList c) = mark c) (hsg : ∀ c, decide (0 ≤ Lib.indexByte signs.data.toList c) = sign c) (v : Value) (op : Int) (hl : l.length ≤ 100000) (w : World) (h : PS p l v op w) :
    Calls Tryz.prog 65 #[.pointer (some ⟨p, 0, none⟩), .string marks, .string signs] w fun x w' => x = .returned (.bool (partJ mark sign l).isSome) ∧ PS p ((partJ mark sign l).getD l) v op w' ∧ RK p w w' := by
  obtain ⟨b, hbl, hr⟩ := h
  have HBL := Lib.hid hbl
  obtain ⟨c0, c1, c2⟩ := hr.cells
  have f0 := hr.frozen 0
  have HR := Lib.hid hr
  have HIX := Lib.hid ix_any
  clear hr
  cases l with
  | nil =>
    have hbe := tl_nil hbl
    clear hbl
    go_enter Tryz.func65, Tryz.ntmps65
    go_wp2_with fail
    go_ret
    exact ⟨rfl, ⟨b, HBL.out, HR.out.str b⟩, RK.set p 0 _ _⟩
  | cons c r =>
    obtain ⟨hb1, hb2, hb3, hb4, -⟩ := tl_cons hbl
    have h00 : b[0]'hb4 = c := at_zero hbl hb4
    have HX1 := Lib.hid (HIX.out marks c)
    have hmc := hm c
    rw [← h00] at HX1 hmc
    obtain ⟨k, hk⟩ : ∃ k, Lib.indexByte marks.data.toList (b[0]'hb4) = k := ⟨_, rfl⟩
    rw [hk] at HX1 hmc
    cases hmk : mark c with
    | false =>
      have tk : decide (0 ≤ k) = false := by rw [hmc, h00]; exact hmk
      have HZ : Hid (partJ mark sign (c :: r) = none) := Lib.hid (pj_no r hmk)
      clear hbl hk hmc hmk h00 hm hsg
      go_enter Tryz.func65, Tryz.ntmps65
      go_wp2_with fail
      refine (HX1.out _).mono ?_; rintro x w1 ⟨rfl, rfl⟩
      go_wp2_with fail
      go_ret
      rw [HZ.out]
      exact ⟨rfl, ⟨b, HBL.out, HR.out.str b⟩, RK.set p 0 _ _⟩
    | true =>
      have tk : decide (0 ≤ k) = true := by rw [hmc, h00]; exact hmk
      have hsz1 : 1 ≤ b.size := hb4
      obtain ⟨b1, hb1e⟩ : ∃ b1, b.extract 1 b.size = b1 := ⟨_, rfl⟩
      have hb1l := ext_one hbl b.size rfl
      rw [hb1e] at hb1l
      have HB1 := Lib.hid hb1l
      obtain ⟨l, hll⟩ : ∃ l, c :: r = l := ⟨_, rfl⟩
      cases r with
      | nil =>
        have HPJ : Hid (partJ mark sign l = (if (([] : List UInt8).takeWhile isDig).isEmpty then none else some (([] : List UInt8).dropWhile isDig))) := Lib.hid (by rw [← hll]; exact pj_yes [] hmk rfl)
        have hbe : b1 = ByteArray.empty := by
          apply ByteArray.ext; apply Array.toList_inj.1; rw [hb1l]; rfl
        subst hbe
        rw [hll] at HBL hl ⊢
        clear hbl hk hmc hmk h00 hm hsg hb1l hll
        go_enter Tryz.func65, Tryz.ntmps65
        go_wp2_with fail
        refine (HX1.out _).mono ?_; rintro x w1 ⟨rfl, rfl⟩
        have HRQ := Lib.hid (HR.out.str ByteArray.empty)
        have HKQ : Hid (RK p w (w.setCell ⟨p, 0, none⟩ (.string ByteArray.empty))) := Lib.hid (RK.set p 0 _ _)
        have HBQ := HB1
        go_wp2_with fail
        have HDG : Hid (∀ W, PS p ([] : List UInt8) v op W → Calls Tryz.prog 64 #[.pointer (some ⟨p, 0, none⟩)] W fun x w' => (∃ dd : ByteArray, x = .returned (.string dd) ∧ dd.data.toList = (([] : List UInt8)).takeWhile isDig) ∧ PS p ((([] : List UInt8)).dropWhile isDig) v op w' ∧ RK p W w') := Lib.hid fun W hW => p_digits p _ v op (by simp) W hW
        cases hdw : ((([] : List UInt8)).takeWhile isDig) with
        | nil =>
          have HZ : Hid (partJ mark sign l = none) := Lib.hid (by rw [HPJ.out, hdw]; rfl)
          rw [hdw] at HDG
          clear hdw
          refine (HDG.out _ ⟨_, HBQ.out, HRQ.out⟩).mono ?_; rintro x w2 ⟨⟨d, rfl, hd⟩, hps, hk⟩
          have hde := tl_nil hd
          obtain ⟨b2, hb2, hr2⟩ := hps
          have HK2 := Lib.hid (HKQ.out.trans hk)
          have HR2 := Lib.hid hr2
          clear hk hr2 hb2 hd
          obtain ⟨c0, c1, c2⟩ := HR2.out.cells
          have f0 := HR2.out.frozen 0
          go_wp2_with fail
          go_ret
          rw [HZ.out]
          exact ⟨rfl, ⟨b, HBL.out, HR2.out.str b⟩, HK2.out.trans (RK.set p 0 _ _)⟩
        | cons dc dr =>
          have HZ : Hid (partJ mark sign l = some ((([] : List UInt8)).dropWhile isDig)) := Lib.hid (by rw [HPJ.out, hdw]; rfl)
          rw [hdw] at HDG
          clear hdw
          refine (HDG.out _ ⟨_, HBQ.out, HRQ.out⟩).mono ?_; rintro x w2 ⟨⟨d, rfl, hd⟩, hps, hk⟩
          obtain ⟨hd1, hd2, hd3, -, -⟩ := tl_cons hd
          have HPS := Lib.hid hps
          have HK2 := Lib.hid (HKQ.out.trans hk)
          clear hps hk hd
          go_wp2_with fail
          go_ret
          rw [HZ.out]
          exact ⟨rfl, HPS.out, HK2.out⟩
      | cons d r2 =>
        obtain ⟨hq1, hq2, hq3, hq4, -⟩ := tl_cons hb1l
        have h01 : b1[0]'hq4 = d := at_zero hb1l hq4
        have HX2 := Lib.hid (HIX.out signs d)
        have hsc := hsg d
        rw [← h01] at HX2 hsc
        obtain ⟨k2, hk2⟩ : ∃ k, Lib.indexByte signs.data.toList (b1[0]'hq4) = k := ⟨_, rfl⟩
        rw [hk2] at HX2 hsc
        have hl2 : r2.length ≤ 100000 := by simp only [List.length_cons] at hl; omega
        have hl3 : (d :: r2).length ≤ 100000 := by simp only [List.length_cons] at hl ⊢; omega
        cases hsd : sign d with
        | false =>
          have tk2 : decide (0 ≤ k2) = false := by rw [hsc, h01]; exact hsd
          have HPJ : Hid (partJ mark sign l = (if ((d :: r2).takeWhile isDig).isEmpty then none else some ((d :: r2).dropWhile isDig))) := Lib.hid (by rw [← hll]; exact pj_yes (d :: r2) hmk hsd)
          rw [hll] at HBL hl ⊢
          clear hbl hk hmc hmk h00 hm hsg hb1l hll h01 hsc hsd hk2
          have HRQ0 := Lib.hid (HR.out.str b1)
          have HKQ0 : Hid (RK p w (w.setCell ⟨p, 0, none⟩ (.string b1))) := Lib.hid (RK.set p 0 _ _)
          obtain ⟨wq, hwq⟩ : ∃ wq, (w.setCell ⟨p, 0, none⟩ (.string b1)) = wq := ⟨_, rfl⟩
          have HBQ := HB1
          go_enter Tryz.func65, Tryz.ntmps65
          go_wp2_with fail
          refine (HX1.out _).mono ?_; rintro x w1 ⟨rfl, rfl⟩
          rw [hwq] at HRQ0 HKQ0
          have HRQ := HRQ0
          have HKQ := HKQ0
          obtain ⟨d0, d1, d2⟩ := HRQ.out.cells
          have e0 := HRQ.out.frozen 0
          go_wp2_with fail
          refine (HX2.out _).mono ?_; rintro x w1 ⟨rfl, rfl⟩
          go_wp2_with fail
          have HDG : Hid (∀ W, PS p (d :: r2) v op W → Calls Tryz.prog 64 #[.pointer (some ⟨p, 0, none⟩)] W fun x w' => (∃ dd : ByteArray, x = .returned (.string dd) ∧ dd.data.toList = ((d :: r2)).takeWhile isDig) ∧ PS p (((d :: r2)).dropWhile isDig) v op w' ∧ RK p W w') := Lib.hid fun W hW => p_digits p _ v op (hl3) W hW
          cases hdw : (((d :: r2)).takeWhile isDig) with
          | nil =>
            have HZ : Hid (partJ mark sign l = none) := Lib.hid (by rw [HPJ.out, hdw]; rfl)
            rw [hdw] at HDG
            clear hdw
            refine (HDG.out _ ⟨_, HBQ.out, HRQ.out⟩).mono ?_; rintro x w2 ⟨⟨d, rfl, hd⟩, hps, hk⟩
            have hde := tl_nil hd
            obtain ⟨b2, hb2, hr2⟩ := hps
            have HK2 := Lib.hid (HKQ.out.trans hk)
            have HR2 := Lib.hid hr2
            clear hk hr2 hb2 hd
            obtain ⟨c0, c1, c2⟩ := HR2.out.cells
            have f0 := HR2.out.frozen 0
            go_wp2_with fail
            go_ret
            rw [HZ.out]
            exact ⟨rfl, ⟨b, HBL.out, HR2.out.str b⟩, HK2.out.trans (RK.set p 0 _ _)⟩
          | cons dc dr =>
            have HZ : Hid (partJ mark sign l = some (((d :: r2)).dropWhile isDig)) := Lib.hid (by rw [HPJ.out, hdw]; rfl)
            rw [hdw] at HDG
            clear hdw
            refine (HDG.out _ ⟨_, HBQ.out, HRQ.out⟩).mono ?_; rintro x w2 ⟨⟨d, rfl, hd⟩, hps, hk⟩
            obtain ⟨hd1, hd2, hd3, -, -⟩ := tl_cons hd
            have HPS := Lib.hid hps
            have HK2 := Lib.hid (HKQ.out.trans hk)
            clear hps hk hd
            go_wp2_with fail
            go_ret
            rw [HZ.out]
            exact ⟨rfl, HPS.out, HK2.out⟩
        | true =>
          have tk2 : decide (0 ≤ k2) = true := by rw [hsc, h01]; exact hsd
          have HPJ : Hid (partJ mark sign l = (if (r2.takeWhile isDig).isEmpty then none else some (r2.dropWhile isDig))) := Lib.hid (by rw [← hll]; exact pj_sign r2 hmk hsd)
          have hsz2 : 1 ≤ b1.size := hq4
          obtain ⟨b2, hb2e⟩ : ∃ b2, b1.extract 1 b1.size = b2 := ⟨_, rfl⟩
          have hb2l := ext_one hb1l b1.size rfl
          rw [hb2e] at hb2l
          have HBQ := Lib.hid hb2l
          rw [hll] at HBL hl ⊢
          clear hbl hk hmc hmk h00 hm hsg hb1l hll h01 hsc hsd hk2 hb2l
          have HRQ0 := Lib.hid (HR.out.str b1)
          have HKQ0 : Hid (RK p w (w.setCell ⟨p, 0, none⟩ (.string b1))) := Lib.hid (RK.set p 0 _ _)
          obtain ⟨wq, hwq⟩ : ∃ wq, (w.setCell ⟨p, 0, none⟩ (.string b1)) = wq := ⟨_, rfl⟩
          go_enter Tryz.func65, Tryz.ntmps65
          go_wp2_with fail
          refine (HX1.out _).mono ?_; rintro x w1 ⟨rfl, rfl⟩
          rw [hwq] at HRQ0 HKQ0
          obtain ⟨d0, d1, d2⟩ := HRQ0.out.cells
          have e0 := HRQ0.out.frozen 0
          go_wp2_with fail
          refine (HX2.out _).mono ?_; rintro x w1 ⟨rfl, rfl⟩
          have HRQ := Lib.hid (HRQ0.out.str b2)
          have HKQ := Lib.hid (HKQ0.out.trans (RK.set p 0 wq (.string b2)))
          go_wp2_with fail
          have HDG : Hid (∀ W, PS p r2 v op W → Calls Tryz.prog 64 #[.pointer (some ⟨p, 0, none⟩)] W fun x w' => (∃ dd : ByteArray, x = .returned (.string dd) ∧ dd.data.toList = (r2).takeWhile isDig) ∧ PS p ((r2).dropWhile isDig) v op w' ∧ RK p W w') := Lib.hid fun W hW => p_digits p _ v op (hl2) W hW
          cases hdw : ((r2).takeWhile isDig) with
          | nil =>
            have HZ : Hid (partJ mark sign l = none) := Lib.hid (by rw [HPJ.out, hdw]; rfl)
            rw [hdw] at HDG
            clear hdw
            refine (HDG.out _ ⟨_, HBQ.out, HRQ.out⟩).mono ?_; rintro x w2 ⟨⟨d, rfl, hd⟩, hps, hk⟩
            have hde := tl_nil hd
            obtain ⟨b2, hb2, hr2⟩ := hps
            have HK2 := Lib.hid (HKQ.out.trans hk)
            have HR2 := Lib.hid hr2
            clear hk hr2 hb2 hd
            obtain ⟨c0, c1, c2⟩ := HR2.out.cells
            have f0 := HR2.out.frozen 0
            go_wp2_with fail
            go_ret
            rw [HZ.out]
            exact ⟨rfl, ⟨b, HBL.out, HR2.out.str b⟩, HK2.out.trans (RK.set p 0 _ _)⟩
          | cons dc dr =>
            have HZ : Hid (partJ mark sign l = some ((r2).dropWhile isDig)) := Lib.hid (by rw [HPJ.out, hdw]; rfl)
            rw [hdw] at HDG
            clear hdw
            refine (HDG.out _ ⟨_, HBQ.out, HRQ.out⟩).mono ?_; rintro x w2 ⟨⟨d, rfl, hd⟩, hps, hk⟩
            obtain ⟨hd1, hd2, hd3, -, -⟩ := tl_cons hd
            have HPS := Lib.hid hps
            have HK2 := Lib.hid (HKQ.out.trans hk)
            clear hps hk hd
            go_wp2_with fail
            go_ret
            rw [HZ.out]
            exact ⟨rfl, HPS.out, HK2.out⟩
end Go.Proofs.YtglhanblbojkhaaGreatDoor
