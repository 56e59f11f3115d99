/- The walks through the reference's JSON reader (provostref04): number. -/
import Derived.Test.YtglhanblbojkhaaGreatDoorNp
import Derived.Test.YtglhanblbojkhaaGreatDoorTw
set_option linter.unusedSimpArgs false
set_option linter.unusedVariables false
namespace Go.Proofs.YtglhanblbojkhaaGreatDoor
open Go.RowKit
theorem PartE.form {r : Nat} {s : ByteArray} {v : Value} {a : Nat} {o : Option (List UInt8)} {x : Ending} {W : World} (ha : a ≤ s.size) (h : PartE r s v a o x W) : ∃ (b : Bool) (a2 : Nat), x = .returned (.bool b) ∧ b = o.isSome ∧ a2 ≤ s.size ∧ s.data.toList.drop a2 = o.getD (s.data.toList.drop a) ∧ RdR r s a2 v 0 W := by
  cases o with
  | none => obtain ⟨h1, h2⟩ := h; exact ⟨false, a, h1, rfl, ha, rfl, h2⟩
  | some t => obtain ⟨h1, a2, h2, h3, h4⟩ := h; exact ⟨true, a2, h1, rfl, h2, h3, h4⟩
/-- Where a number ends. -/
def NumE (r : Nat) (s : ByteArray) (v : Value) (o : Except Int (Int × List UInt8)) (x : Ending) (W : World) : Prop := match o with
  | .error f => ∃ (n : Int) (a : Nat), x = .returned (.int .i64 n) ∧ a ≤ s.size ∧ RdR r s a v f W
  | .ok (n, t) => x = .returned (.int .i64 n) ∧ ∃ a, a ≤ s.size ∧ s.data.toList.drop a = t ∧ RdR r s a v 0 W
def numT (l : List UInt8) : List UInt8 := (if below l then [45] else []) ++ wholeJ (body l)
theorem numJ_bad (l : List UInt8) (h : wholeJ (body l) = []) : numJ l = .error 40 := by
  unfold numJ
  simp [h]
theorem numJ_good (l l2 l3 l4 : List UInt8) (b1 b2 : Bool) (h : wholeJ (body l) ≠ []) (h2 : l2 = (body l).drop (wholeJ (body l)).length) (hb1 : b1 = (pointJ l2).isSome) (h3 : l3 = (pointJ l2).getD l2) (hb2 : b2 = (powerJ l3).isSome) (h4 : l4 = (powerJ l3).getD l3) :
    numJ l = if b1 || b2 || rdE (numT l) != 0 then .error 41 else .ok (rdV (numT l), l4) := by
  unfold numJ numT
  subst h2 h3 h4 hb1 hb2
  have : (wholeJ (body l)).isEmpty = false := by cases hw : wholeJ (body l) with | nil => exact absurd hw h | cons c t => rfl
  simp only [this]
  rfl
theorem below_at (s : ByteArray) (a : Nat) : below (s.data.toList.drop a) = decide (lookJ 0 (s.data.toList.drop a) = 45) := by
  unfold lookJ
  rw [if_neg (by simp)]
  cases s.data.toList.drop a with
  | nil => rfl
  | cons c t => show (c == 45) = _; rfl
theorem whole_zero (s : ByteArray) (a : Nat) (h : lookJ 0 (s.data.toList.drop a) = 48) : wholeJ (s.data.toList.drop a) = [48] ∧ a < s.size := by
  by_cases hlt : a < s.size
  · rw [look_at s a hlt] at h
    refine ⟨?_, hlt⟩
    unfold wholeJ
    rw [drop_at s a hlt, h]
    rfl
  · rw [look_out s a hlt] at h
    exact absurd h (by decide)
theorem whole_digits (s : ByteArray) (a : Nat) (h : lookJ 0 (s.data.toList.drop a) ≠ 48) : (wholeJ (s.data.toList.drop a)) = (s.data.toList.drop a).takeWhile isDig ∧ (wholeJ (s.data.toList.drop a)).length = digK 0 (s.data.toList.drop a) := by
  have e : wholeJ (s.data.toList.drop a) = (s.data.toList.drop a).takeWhile isDig := by
    unfold lookJ at h
    rw [if_neg (by simp)] at h
    unfold wholeJ
    cases hd : s.data.toList.drop a with
    | nil => rfl
    | cons c t =>
      rw [hd, List.headD_cons] at h
      rw [if_neg]
      simpa using h
  refine ⟨e, ?_⟩
  rw [e]; unfold digK; rw [if_pos rfl]
theorem takeWhile_take (l : List UInt8) (p : UInt8 → Bool) : l.take (l.takeWhile p).length = l.takeWhile p := by
  induction l with
  | nil => rfl
  | cons c t ih =>
    rw [List.takeWhile_cons]
    split
    · rw [List.length_cons, List.take_succ_cons, ih]
    · rfl
theorem whole_take (s : ByteArray) (a : Nat) : (s.data.toList.drop a).take (wholeJ (s.data.toList.drop a)).length = wholeJ (s.data.toList.drop a) := by
  by_cases h : lookJ 0 (s.data.toList.drop a) = 48
  · obtain ⟨h1, h2⟩ := whole_zero s a h
    rw [h1]
    rw [look_at s a h2] at h
    rw [drop_at s a h2, h]; rfl
  · rw [(whole_digits s a h).1]
    exact takeWhile_take _ _
/-- The numeral's bytes. -/
theorem num_ext (s : ByteArray) (at_ a1 a2 : Nat) (hb : (below (s.data.toList.drop at_) = true ∧ a1 = at_ + 1 ∧ at_ < s.size) ∨ (below (s.data.toList.drop at_) = false ∧ a1 = at_)) (h2 : a2 = a1 + (wholeJ (s.data.toList.drop a1)).length) :
    (s.extract at_ a2).data.toList = numT (s.data.toList.drop at_) ∧ body (s.data.toList.drop at_) = s.data.toList.drop a1 := by
  rcases hb with ⟨h1, rfl, hlt⟩ | ⟨h1, rfl⟩
  · have hbo : body (s.data.toList.drop at_) = s.data.toList.drop (at_ + 1) := by
      unfold body; rw [h1, if_pos rfl, List.tail_drop]
    refine ⟨?_, hbo⟩
    have := ext_list s at_ (1 + (wholeJ (s.data.toList.drop (at_ + 1))).length)
    rw [h2, show at_ + 1 + (wholeJ (s.data.toList.drop (at_ + 1))).length = at_ + (1 + (wholeJ (s.data.toList.drop (at_ + 1))).length) from by omega]
    rw [ByteArray.toList_eq] at this
    rw [this]
    unfold numT
    rw [h1, if_pos rfl, hbo]
    have hd := below_at s at_
    rw [h1] at hd
    have hc := of_decide_eq_true hd.symm
    rw [look_at s at_ hlt] at hc
    rw [drop_at s at_ hlt, hc, show 1 + (wholeJ (s.data.toList.drop (at_ + 1))).length = (wholeJ (s.data.toList.drop (at_ + 1))).length + 1 from by omega, List.take_succ_cons, whole_take]
    rfl
  · have hbo : body (s.data.toList.drop a1) = s.data.toList.drop a1 := by unfold body; rw [h1, if_neg Bool.false_ne_true]
    refine ⟨?_, hbo⟩
    have := ext_list s a1 (wholeJ (s.data.toList.drop a1)).length
    rw [ByteArray.toList_eq] at this
    rw [h2, this, whole_take]
    unfold numT
    rw [h1, hbo]
    rfl
set_option maxRecDepth 100000 in
set_option maxHeartbeats 2000000 in
theorem rnumber_pos_bad (r : Nat) (s : ByteArray) (at_ : Nat) (v : Value) (ha : at_ ≤ s.size) (hs : s.size ≤ 1000000) (w : World) (h : RdR r s at_ v 0 w) (hc : lookJ 0 (s.data.toList.drop at_) ≠ 45) (hz : lookJ 0 (s.data.toList.drop at_) ≠ 48) (hk : digK 0 (s.data.toList.drop at_) = 0)
    (HRD : Hid (∀ (x : ByteArray) (W : World), x.size ≤ maxLen → Calls Tryz.prog 77 #[.string x] W fun e w' => e = .returned (.tuple #[.int .i64 (rdV x.data.toList), .int .i64 (rdE x.data.toList)]) ∧ W = w')) :
    Calls Tryz.prog 53 #[.pointer (some ⟨r, 0, none⟩)] w fun x w' => NumE r s v (numJ (s.data.toList.drop at_)) x w' ∧ RK r w w' := by
  have HH := Lib.hid h
  have hlt := h.lt
  obtain ⟨N, hN⟩ : ∃ N, numJ (s.data.toList.drop at_) = N := ⟨_, rfl⟩
  have hside : (below (s.data.toList.drop at_) = true ∧ at_ = at_ + 1 ∧ at_ < s.size) ∨ (below (s.data.toList.drop at_) = false ∧ at_ = at_) := by
    rw [below_at]
    exact Or.inr ⟨decide_eq_false hc, rfl⟩
  have hwl := (whole_digits s _ hz).2
  obtain ⟨hex, hbo⟩ := num_ext s at_ at_ (at_ + digK 0 (s.data.toList.drop at_)) hside (by rw [hwl])
  have HN : Hid (N = .error 40) := Lib.hid (by rw [← hN]; exact numJ_bad _ (by rw [hbo]; exact List.eq_nil_of_length_eq_zero (by rw [hwl, hk])))
  have HL0 : Hid (∀ W, RdR r s at_ v 0 W → Calls Tryz.prog 48 #[.pointer (some ⟨r, 0, none⟩)] W fun x w' => x = .returned (.int .u8 ((lookJ 0 (s.data.toList.drop at_)).toNat : Int)) ∧ Below W.heap.size W w') := Lib.hid fun W h2 => rlook_any r s at_ v 0 ha hs W h2
  have HL1 : Hid (∀ W, RdR r s at_ v 0 W → Calls Tryz.prog 48 #[.pointer (some ⟨r, 0, none⟩)] W fun x w' => x = .returned (.int .u8 ((lookJ 0 (s.data.toList.drop at_)).toNat : Int)) ∧ Below W.heap.size W w') := Lib.hid fun W h2 => rlook_any r s at_ v 0 (by omega) hs W h2
  have HDS : Hid (∀ W, RdR r s at_ v 0 W → Calls Tryz.prog 75 #[.pointer (some ⟨r, 0, none⟩)] W fun x w' => x = .returned (.tuple #[]) ∧ ((at_ + digK 0 (s.data.toList.drop at_)) ≤ s.size ∧ RdR r s (at_ + digK 0 (s.data.toList.drop at_)) v 40 w') ∧ RK r W w') := Lib.hid fun W h2 => by
    have := rdigits_any r s at_ v 0 (by omega) hs W h2
    rw [if_pos ⟨rfl, hk⟩] at this
    exact this
  have t0 : (((lookJ 0 (s.data.toList.drop at_)).toNat : Int) == 45) = false := beq_eq_false_iff_ne.2 fun e => hc (UInt8.toNat_inj.1 (by show _ = 45; omega))
  have t1 : (((lookJ 0 (s.data.toList.drop at_)).toNat : Int) == 48) = false := beq_eq_false_iff_ne.2 fun e => hz (UInt8.toNat_inj.1 (by show _ = 48; omega))
  generalize ((lookJ 0 (s.data.toList.drop at_)).toNat : Int) = c1 at *
  rw [hN]
  clear hN hside hex hbo hwl hc hz hk
  obtain ⟨c0, c1x, c2, c3⟩ := h.cells
  clear h
  go_enter Tryz.func53, Tryz.ntmps53
  go_wp2_with fail
  refine (HL0.out _ HH.out).mono ?_; rintro x w1 ⟨rfl, hb⟩
  have HR1 := Lib.hid (HH.out.below hb)
  have HK1 := Lib.hid (RK.of_below hb hlt)
  have hl1 := HR1.out.lt
  clear hb c0 c1x c2 c3
  go_wp2_with fail
  refine (HL1.out _ HR1.out).mono ?_; rintro x w3 ⟨rfl, hb⟩
  have HR3 := Lib.hid (HR1.out.below hb)
  have HK3 := Lib.hid (HK1.out.trans (RK.of_below hb HR1.out.lt))
  clear hb
  obtain ⟨c0, c1x, c2, c3⟩ := HR3.out.cells
  have f1 := HR3.out.frozen 1
  go_wp2_with fail
  clear c0 c1x c2 c3 f1
  refine (HDS.out _ HR3.out).mono ?_; rintro x w4 ⟨rfl, ⟨hle, hr⟩, hk⟩
  have HR4 := Lib.hid hr
  have HK4 := Lib.hid (HK3.out.trans hk)
  clear hr hk
  obtain ⟨c0, c1x, c2, c3⟩ := HR4.out.cells
  go_wp2_with fail
  clear c0 c1x c2 c3
  go_ret
  refine ⟨?_, HK4.out⟩
  rw [HN.out]
  exact ⟨_, _, rfl, hle, HR4.out⟩
set_option maxRecDepth 100000 in
set_option maxHeartbeats 2000000 in
theorem rnumber_pos_zero (r : Nat) (s : ByteArray) (at_ : Nat) (v : Value) (ha : at_ ≤ s.size) (hs : s.size ≤ 1000000) (w : World) (h : RdR r s at_ v 0 w) (hc : lookJ 0 (s.data.toList.drop at_) ≠ 45) (hz : lookJ 0 (s.data.toList.drop at_) = 48) (hlt1 : at_ < s.size)
    (HRD : Hid (∀ (x : ByteArray) (W : World), x.size ≤ maxLen → Calls Tryz.prog 77 #[.string x] W fun e w' => e = .returned (.tuple #[.int .i64 (rdV x.data.toList), .int .i64 (rdE x.data.toList)]) ∧ W = w')) :
    Calls Tryz.prog 53 #[.pointer (some ⟨r, 0, none⟩)] w fun x w' => NumE r s v (numJ (s.data.toList.drop at_)) x w' ∧ RK r w w' := by
  have HH := Lib.hid h
  have hlt := h.lt
  obtain ⟨N, hN⟩ : ∃ N, numJ (s.data.toList.drop at_) = N := ⟨_, rfl⟩
  have hside : (below (s.data.toList.drop at_) = true ∧ at_ = at_ + 1 ∧ at_ < s.size) ∨ (below (s.data.toList.drop at_) = false ∧ at_ = at_) := by
    rw [below_at]
    exact Or.inr ⟨decide_eq_false hc, rfl⟩
  have hwl : (wholeJ (s.data.toList.drop at_)).length = 1 := by rw [(whole_zero s _ hz).1]; rfl
  obtain ⟨hex, hbo⟩ := num_ext s at_ at_ (at_ + 1) hside (by rw [hwl])
  have hwne : wholeJ (body (s.data.toList.drop at_)) ≠ [] := by
    rw [hbo]; intro h0; rw [h0] at hwl; cases hwl
  have hl2 : s.data.toList.drop (at_ + 1) = (body (s.data.toList.drop at_)).drop (wholeJ (body (s.data.toList.drop at_))).length := by
    rw [hbo, hwl, List.drop_drop]
  obtain ⟨T, hT⟩ : ∃ T, numT (s.data.toList.drop at_) = T := ⟨_, rfl⟩
  have HG : Hid (∀ (b1 b2 : Bool) (a3 a4 : Nat), b1 = (pointJ (s.data.toList.drop (at_ + 1))).isSome → s.data.toList.drop a3 = (pointJ (s.data.toList.drop (at_ + 1))).getD (s.data.toList.drop (at_ + 1)) → b2 = (powerJ (s.data.toList.drop a3)).isSome → s.data.toList.drop a4 = (powerJ (s.data.toList.drop a3)).getD (s.data.toList.drop a3) → N = if b1 || b2 || rdE T != 0 then .error 41 else .ok (rdV T, s.data.toList.drop a4)) := Lib.hid fun b1 b2 a3 a4 g1 g2 g3 g4 => by
    rw [← hN, ← hT]; exact numJ_good _ _ _ _ b1 b2 hwne hl2 g1 g2 g3 g4
  have ha2 : (at_ + 1) ≤ s.size := by omega
  have HRX : Hid (∀ W, Calls Tryz.prog 77 #[.string (s.extract at_ (at_ + 1))] W fun e w' => e = .returned (.tuple #[.int .i64 (rdV T), .int .i64 (rdE T)]) ∧ W = w') := Lib.hid fun W => by
    have := HRD.out (s.extract at_ (at_ + 1)) W (by rw [ByteArray.size_extract]; unfold maxLen; omega)
    rw [hex, hT] at this
    exact this
  have HL0 : Hid (∀ W, RdR r s at_ v 0 W → Calls Tryz.prog 48 #[.pointer (some ⟨r, 0, none⟩)] W fun x w' => x = .returned (.int .u8 ((lookJ 0 (s.data.toList.drop at_)).toNat : Int)) ∧ Below W.heap.size W w') := Lib.hid fun W h2 => rlook_any r s at_ v 0 ha hs W h2
  have HL1 : Hid (∀ W, RdR r s at_ v 0 W → Calls Tryz.prog 48 #[.pointer (some ⟨r, 0, none⟩)] W fun x w' => x = .returned (.int .u8 ((lookJ 0 (s.data.toList.drop at_)).toNat : Int)) ∧ Below W.heap.size W w') := Lib.hid fun W h2 => rlook_any r s at_ v 0 (by omega) hs W h2
  have t0 : (((lookJ 0 (s.data.toList.drop at_)).toNat : Int) == 45) = false := beq_eq_false_iff_ne.2 fun e => hc (UInt8.toNat_inj.1 (by show _ = 45; omega))
  rw [hz, show ((((48 : UInt8)).toNat : Nat) : Int) = 48 from rfl] at HL1
  rw [hz] at t0 HL0
  rw [show ((((48 : UInt8)).toNat : Nat) : Int) = 48 from rfl] at t0 HL0
  have HPO : Hid (∀ W, RdR r s (at_ + 1) v 0 W → Calls Tryz.prog 76 #[.pointer (some ⟨r, 0, none⟩), .bool false] W fun x w' => PartE r s v (at_ + 1) (pointJ (s.data.toList.drop (at_ + 1))) x w' ∧ RK r W w') := Lib.hid fun W h2 => rpoint_any r s (at_ + 1) v ha2 hs W h2
  have HPW : Hid (∀ a3, a3 ≤ s.size → ∀ W, RdR r s a3 v 0 W → Calls Tryz.prog 76 #[.pointer (some ⟨r, 0, none⟩), .bool true] W fun x w' => PartE r s v a3 (powerJ (s.data.toList.drop a3)) x w' ∧ RK r W w') := Lib.hid fun a3 h1 W h2 => rpower_any r s a3 v h1 hs W h2
  have he : (rdE T != 0) = true ∨ (rdE T != 0) = false := by cases (rdE T != 0) <;> simp
  generalize rdE T = e2 at *
  generalize rdV T = n at *
  rw [hN]
  clear hN hside hex hbo hwl hwne hl2 hT hc hz
  obtain ⟨c0, c1x, c2, c3⟩ := h.cells
  clear h
  go_enter Tryz.func53, Tryz.ntmps53
  go_wp2_with fail
  refine (HL0.out _ HH.out).mono ?_; rintro x w1 ⟨rfl, hb⟩
  have HR1 := Lib.hid (HH.out.below hb)
  have HK1 := Lib.hid (RK.of_below hb hlt)
  have hl1 := HR1.out.lt
  clear hb c0 c1x c2 c3
  go_wp2_with fail
  refine (HL1.out _ HR1.out).mono ?_; rintro x w3 ⟨rfl, hb⟩
  have HR3 := Lib.hid (HR1.out.below hb)
  have HK3 := Lib.hid (HK1.out.trans (RK.of_below hb HR1.out.lt))
  clear hb
  obtain ⟨c0, c1x, c2, c3⟩ := HR3.out.cells
  have f1 := HR3.out.frozen 1
  go_wp2_with fail
  have HR4 : Hid (RdR r s (at_ + 1) v 0 (w3.setCell ⟨r, 1, none⟩ (.int .i64 ((at_ : Int) + 1)))) := Lib.hid (by
    have := HR3.out.at_ (at_ + 1)
    rw [show (((at_ + 1) : Nat) : Int) = (at_ : Int) + 1 from by omega] at this
    exact this)
  have HK4 := Lib.hid (HK3.out.trans (RK.set r 1 w3 (.int .i64 ((at_ : Int) + 1))))
  clear c0 c1x c2 c3 f1
  refine (HPO.out _ HR4.out).mono ?_; rintro x w5 ⟨hp, hk⟩
  obtain ⟨b1, a3, rfl, hb1, ha3, hd3, hr3⟩ := hp.form ha2
  have HR5 := Lib.hid hr3
  have HK5 := Lib.hid (HK4.out.trans hk)
  have HB1 := Lib.hid hb1
  have HD3 := Lib.hid hd3
  clear hp hk hb1 hd3 hr3
  obtain ⟨c0, c1x, c2, c3⟩ := HR5.out.cells
  go_wp2_with fail
  clear c0 c1x c2 c3
  refine (HPW.out a3 ha3 _ HR5.out).mono ?_; rintro x w6 ⟨hp, hk⟩
  obtain ⟨b2, a4, rfl, hb2, ha4, hd4, hr4⟩ := hp.form ha3
  have HR6 := Lib.hid hr4
  have HK6 := Lib.hid (HK5.out.trans hk)
  have HNN := Lib.hid (HG.out b1 b2 a3 a4 HB1.out HD3.out hb2 hd4)
  clear hp hk hb2 hd4 hr4
  obtain ⟨c0, c1x, c2, c3⟩ := HR6.out.cells
  have HFA : Hid (∀ W, RdR r s a4 v 0 W → Calls Tryz.prog 27 #[.pointer (some ⟨r, 0, none⟩), .int .i64 41] W fun x w' => x = .returned (.tuple #[]) ∧ RdR r s a4 v 41 w' ∧ RK r W w') := Lib.hid fun W hW => by
    have := rfail_any r s a4 v 0 41 W hW
    rw [if_pos rfl] at this
    exact this
  cases b1 <;> cases b2 <;> rcases he with he | he
  all_goals
    rw [he] at HNN
    go_wp2_with fail
    refine (HRX.out _).mono ?_; rintro x w7 ⟨rfl, rfl⟩
    go_wp2_with fail
    first
      | (refine (HFA.out _ HR6.out).mono ?_
         rintro x w8 ⟨rfl, hr, hk⟩
         have HF := Lib.hid hr
         have HK8 := Lib.hid (HK6.out.trans hk)
         clear hr hk
         go_wp2_with fail
         go_ret
         refine ⟨?_, HK8.out⟩
         rw [HNN.out]
         exact ⟨_, _, rfl, ha4, HF.out⟩)
      | (go_ret
         refine ⟨?_, HK6.out⟩
         rw [HNN.out]
         exact ⟨rfl, _, ha4, rfl, HR6.out⟩)
set_option maxRecDepth 100000 in
set_option maxHeartbeats 2000000 in
theorem rnumber_pos_dig (r : Nat) (s : ByteArray) (at_ : Nat) (v : Value) (ha : at_ ≤ s.size) (hs : s.size ≤ 1000000) (w : World) (h : RdR r s at_ v 0 w) (hc : lookJ 0 (s.data.toList.drop at_) ≠ 45) (hz : lookJ 0 (s.data.toList.drop at_) ≠ 48) (hk : ¬ digK 0 (s.data.toList.drop at_) = 0) (hkl : (at_ + digK 0 (s.data.toList.drop at_)) ≤ s.size)
    (HRD : Hid (∀ (x : ByteArray) (W : World), x.size ≤ maxLen → Calls Tryz.prog 77 #[.string x] W fun e w' => e = .returned (.tuple #[.int .i64 (rdV x.data.toList), .int .i64 (rdE x.data.toList)]) ∧ W = w')) :
    Calls Tryz.prog 53 #[.pointer (some ⟨r, 0, none⟩)] w fun x w' => NumE r s v (numJ (s.data.toList.drop at_)) x w' ∧ RK r w w' := by
  have HH := Lib.hid h
  have hlt := h.lt
  obtain ⟨N, hN⟩ : ∃ N, numJ (s.data.toList.drop at_) = N := ⟨_, rfl⟩
  have hside : (below (s.data.toList.drop at_) = true ∧ at_ = at_ + 1 ∧ at_ < s.size) ∨ (below (s.data.toList.drop at_) = false ∧ at_ = at_) := by
    rw [below_at]
    exact Or.inr ⟨decide_eq_false hc, rfl⟩
  have hwl := (whole_digits s _ hz).2
  obtain ⟨hex, hbo⟩ := num_ext s at_ at_ (at_ + digK 0 (s.data.toList.drop at_)) hside (by rw [hwl])
  have hwne : wholeJ (body (s.data.toList.drop at_)) ≠ [] := by
    rw [hbo]; intro h0; rw [h0] at hwl; exact hk hwl.symm
  have hl2 : s.data.toList.drop (at_ + digK 0 (s.data.toList.drop at_)) = (body (s.data.toList.drop at_)).drop (wholeJ (body (s.data.toList.drop at_))).length := by
    rw [hbo, hwl, List.drop_drop]
  obtain ⟨T, hT⟩ : ∃ T, numT (s.data.toList.drop at_) = T := ⟨_, rfl⟩
  have HG : Hid (∀ (b1 b2 : Bool) (a3 a4 : Nat), b1 = (pointJ (s.data.toList.drop (at_ + digK 0 (s.data.toList.drop at_)))).isSome → s.data.toList.drop a3 = (pointJ (s.data.toList.drop (at_ + digK 0 (s.data.toList.drop at_)))).getD (s.data.toList.drop (at_ + digK 0 (s.data.toList.drop at_))) → b2 = (powerJ (s.data.toList.drop a3)).isSome → s.data.toList.drop a4 = (powerJ (s.data.toList.drop a3)).getD (s.data.toList.drop a3) → N = if b1 || b2 || rdE T != 0 then .error 41 else .ok (rdV T, s.data.toList.drop a4)) := Lib.hid fun b1 b2 a3 a4 g1 g2 g3 g4 => by
    rw [← hN, ← hT]; exact numJ_good _ _ _ _ b1 b2 hwne hl2 g1 g2 g3 g4
  have ha2 : (at_ + digK 0 (s.data.toList.drop at_)) ≤ s.size := by omega
  have HRX : Hid (∀ W, Calls Tryz.prog 77 #[.string (s.extract at_ (at_ + digK 0 (s.data.toList.drop at_)))] W fun e w' => e = .returned (.tuple #[.int .i64 (rdV T), .int .i64 (rdE T)]) ∧ W = w') := Lib.hid fun W => by
    have := HRD.out (s.extract at_ (at_ + digK 0 (s.data.toList.drop at_))) W (by rw [ByteArray.size_extract]; unfold maxLen; omega)
    rw [hex, hT] at this
    exact this
  have HL0 : Hid (∀ W, RdR r s at_ v 0 W → Calls Tryz.prog 48 #[.pointer (some ⟨r, 0, none⟩)] W fun x w' => x = .returned (.int .u8 ((lookJ 0 (s.data.toList.drop at_)).toNat : Int)) ∧ Below W.heap.size W w') := Lib.hid fun W h2 => rlook_any r s at_ v 0 ha hs W h2
  have HL1 : Hid (∀ W, RdR r s at_ v 0 W → Calls Tryz.prog 48 #[.pointer (some ⟨r, 0, none⟩)] W fun x w' => x = .returned (.int .u8 ((lookJ 0 (s.data.toList.drop at_)).toNat : Int)) ∧ Below W.heap.size W w') := Lib.hid fun W h2 => rlook_any r s at_ v 0 (by omega) hs W h2
  have HDS : Hid (∀ W, RdR r s at_ v 0 W → Calls Tryz.prog 75 #[.pointer (some ⟨r, 0, none⟩)] W fun x w' => x = .returned (.tuple #[]) ∧ ((at_ + digK 0 (s.data.toList.drop at_)) ≤ s.size ∧ RdR r s (at_ + digK 0 (s.data.toList.drop at_)) v 0 w') ∧ RK r W w') := Lib.hid fun W h2 => by
    have := rdigits_any r s at_ v 0 (by omega) hs W h2
    rw [if_neg (fun hh => hk hh.2)] at this
    exact this
  have t0 : (((lookJ 0 (s.data.toList.drop at_)).toNat : Int) == 45) = false := beq_eq_false_iff_ne.2 fun e => hc (UInt8.toNat_inj.1 (by show _ = 45; omega))
  have t1 : (((lookJ 0 (s.data.toList.drop at_)).toNat : Int) == 48) = false := beq_eq_false_iff_ne.2 fun e => hz (UInt8.toNat_inj.1 (by show _ = 48; omega))
  generalize ((lookJ 0 (s.data.toList.drop at_)).toNat : Int) = c1 at *
  have HPO : Hid (∀ W, RdR r s (at_ + digK 0 (s.data.toList.drop at_)) v 0 W → Calls Tryz.prog 76 #[.pointer (some ⟨r, 0, none⟩), .bool false] W fun x w' => PartE r s v (at_ + digK 0 (s.data.toList.drop at_)) (pointJ (s.data.toList.drop (at_ + digK 0 (s.data.toList.drop at_)))) x w' ∧ RK r W w') := Lib.hid fun W h2 => rpoint_any r s (at_ + digK 0 (s.data.toList.drop at_)) v ha2 hs W h2
  have HPW : Hid (∀ a3, a3 ≤ s.size → ∀ W, RdR r s a3 v 0 W → Calls Tryz.prog 76 #[.pointer (some ⟨r, 0, none⟩), .bool true] W fun x w' => PartE r s v a3 (powerJ (s.data.toList.drop a3)) x w' ∧ RK r W w') := Lib.hid fun a3 h1 W h2 => rpower_any r s a3 v h1 hs W h2
  have he : (rdE T != 0) = true ∨ (rdE T != 0) = false := by cases (rdE T != 0) <;> simp
  generalize rdE T = e2 at *
  generalize rdV T = n at *
  rw [hN]
  clear hN hside hex hbo hwl hwne hl2 hT hc hz hk
  obtain ⟨c0, c1x, c2, c3⟩ := h.cells
  clear h
  go_enter Tryz.func53, Tryz.ntmps53
  go_wp2_with fail
  refine (HL0.out _ HH.out).mono ?_; rintro x w1 ⟨rfl, hb⟩
  have HR1 := Lib.hid (HH.out.below hb)
  have HK1 := Lib.hid (RK.of_below hb hlt)
  have hl1 := HR1.out.lt
  clear hb c0 c1x c2 c3
  go_wp2_with fail
  refine (HL1.out _ HR1.out).mono ?_; rintro x w3 ⟨rfl, hb⟩
  have HR3 := Lib.hid (HR1.out.below hb)
  have HK3 := Lib.hid (HK1.out.trans (RK.of_below hb HR1.out.lt))
  clear hb
  obtain ⟨c0, c1x, c2, c3⟩ := HR3.out.cells
  have f1 := HR3.out.frozen 1
  go_wp2_with fail
  clear c0 c1x c2 c3 f1
  refine (HDS.out _ HR3.out).mono ?_; rintro x w4 ⟨rfl, ⟨hle, hr⟩, hk⟩
  have HR4 := Lib.hid hr
  have HK4 := Lib.hid (HK3.out.trans hk)
  clear hr hk
  obtain ⟨c0, c1x, c2, c3⟩ := HR4.out.cells
  go_wp2_with fail
  clear c0 c1x c2 c3
  refine (HPO.out _ HR4.out).mono ?_; rintro x w5 ⟨hp, hk⟩
  obtain ⟨b1, a3, rfl, hb1, ha3, hd3, hr3⟩ := hp.form ha2
  have HR5 := Lib.hid hr3
  have HK5 := Lib.hid (HK4.out.trans hk)
  have HB1 := Lib.hid hb1
  have HD3 := Lib.hid hd3
  clear hp hk hb1 hd3 hr3
  obtain ⟨c0, c1x, c2, c3⟩ := HR5.out.cells
  go_wp2_with fail
  clear c0 c1x c2 c3
  refine (HPW.out a3 ha3 _ HR5.out).mono ?_; rintro x w6 ⟨hp, hk⟩
  obtain ⟨b2, a4, rfl, hb2, ha4, hd4, hr4⟩ := hp.form ha3
  have HR6 := Lib.hid hr4
  have HK6 := Lib.hid (HK5.out.trans hk)
  have HNN := Lib.hid (HG.out b1 b2 a3 a4 HB1.out HD3.out hb2 hd4)
  clear hp hk hb2 hd4 hr4
  obtain ⟨c0, c1x, c2, c3⟩ := HR6.out.cells
  have HFA : Hid (∀ W, RdR r s a4 v 0 W → Calls Tryz.prog 27 #[.pointer (some ⟨r, 0, none⟩), .int .i64 41] W fun x w' => x = .returned (.tuple #[]) ∧ RdR r s a4 v 41 w' ∧ RK r W w') := Lib.hid fun W hW => by
    have := rfail_any r s a4 v 0 41 W hW
    rw [if_pos rfl] at this
    exact this
  cases b1 <;> cases b2 <;> rcases he with he | he
  all_goals
    rw [he] at HNN
    go_wp2_with fail
    refine (HRX.out _).mono ?_; rintro x w7 ⟨rfl, rfl⟩
    go_wp2_with fail
    first
      | (refine (HFA.out _ HR6.out).mono ?_
         rintro x w8 ⟨rfl, hr, hk⟩
         have HF := Lib.hid hr
         have HK8 := Lib.hid (HK6.out.trans hk)
         clear hr hk
         go_wp2_with fail
         go_ret
         refine ⟨?_, HK8.out⟩
         rw [HNN.out]
         exact ⟨_, _, rfl, ha4, HF.out⟩)
      | (go_ret
         refine ⟨?_, HK6.out⟩
         rw [HNN.out]
         exact ⟨rfl, _, ha4, rfl, HR6.out⟩)
set_option maxRecDepth 100000 in
set_option maxHeartbeats 2000000 in
theorem rnumber_neg_bad (r : Nat) (s : ByteArray) (at_ : Nat) (v : Value) (ha : at_ ≤ s.size) (hs : s.size ≤ 1000000) (w : World) (h : RdR r s at_ v 0 w) (hc : lookJ 0 (s.data.toList.drop at_) = 45) (hlt0 : at_ < s.size) (hz : lookJ 0 (s.data.toList.drop (at_ + 1)) ≠ 48) (hk : digK 0 (s.data.toList.drop (at_ + 1)) = 0)
    (HRD : Hid (∀ (x : ByteArray) (W : World), x.size ≤ maxLen → Calls Tryz.prog 77 #[.string x] W fun e w' => e = .returned (.tuple #[.int .i64 (rdV x.data.toList), .int .i64 (rdE x.data.toList)]) ∧ W = w')) :
    Calls Tryz.prog 53 #[.pointer (some ⟨r, 0, none⟩)] w fun x w' => NumE r s v (numJ (s.data.toList.drop at_)) x w' ∧ RK r w w' := by
  have HH := Lib.hid h
  have hlt := h.lt
  obtain ⟨N, hN⟩ : ∃ N, numJ (s.data.toList.drop at_) = N := ⟨_, rfl⟩
  have hside : (below (s.data.toList.drop at_) = true ∧ (at_ + 1) = at_ + 1 ∧ at_ < s.size) ∨ (below (s.data.toList.drop at_) = false ∧ (at_ + 1) = at_) := by
    rw [below_at]
    exact Or.inl ⟨decide_eq_true hc, rfl, hlt0⟩
  have hwl := (whole_digits s _ hz).2
  obtain ⟨hex, hbo⟩ := num_ext s at_ (at_ + 1) ((at_ + 1) + digK 0 (s.data.toList.drop (at_ + 1))) hside (by rw [hwl])
  have HN : Hid (N = .error 40) := Lib.hid (by rw [← hN]; exact numJ_bad _ (by rw [hbo]; exact List.eq_nil_of_length_eq_zero (by rw [hwl, hk])))
  have HL0 : Hid (∀ W, RdR r s at_ v 0 W → Calls Tryz.prog 48 #[.pointer (some ⟨r, 0, none⟩)] W fun x w' => x = .returned (.int .u8 ((lookJ 0 (s.data.toList.drop at_)).toNat : Int)) ∧ Below W.heap.size W w') := Lib.hid fun W h2 => rlook_any r s at_ v 0 ha hs W h2
  have HL1 : Hid (∀ W, RdR r s (at_ + 1) v 0 W → Calls Tryz.prog 48 #[.pointer (some ⟨r, 0, none⟩)] W fun x w' => x = .returned (.int .u8 ((lookJ 0 (s.data.toList.drop (at_ + 1))).toNat : Int)) ∧ Below W.heap.size W w') := Lib.hid fun W h2 => rlook_any r s (at_ + 1) v 0 (by omega) hs W h2
  have HDS : Hid (∀ W, RdR r s (at_ + 1) v 0 W → Calls Tryz.prog 75 #[.pointer (some ⟨r, 0, none⟩)] W fun x w' => x = .returned (.tuple #[]) ∧ (((at_ + 1) + digK 0 (s.data.toList.drop (at_ + 1))) ≤ s.size ∧ RdR r s ((at_ + 1) + digK 0 (s.data.toList.drop (at_ + 1))) v 40 w') ∧ RK r W w') := Lib.hid fun W h2 => by
    have := rdigits_any r s (at_ + 1) v 0 (by omega) hs W h2
    rw [if_pos ⟨rfl, hk⟩] at this
    exact this
  rw [hc, show ((((45 : UInt8)).toNat : Nat) : Int) = 45 from rfl] at HL0
  have t1 : (((lookJ 0 (s.data.toList.drop (at_ + 1))).toNat : Int) == 48) = false := beq_eq_false_iff_ne.2 fun e => hz (UInt8.toNat_inj.1 (by show _ = 48; omega))
  generalize ((lookJ 0 (s.data.toList.drop (at_ + 1))).toNat : Int) = c1 at *
  rw [hN]
  clear hN hside hex hbo hwl hc hz hk
  obtain ⟨c0, c1x, c2, c3⟩ := h.cells
  clear h
  go_enter Tryz.func53, Tryz.ntmps53
  go_wp2_with fail
  refine (HL0.out _ HH.out).mono ?_; rintro x w1 ⟨rfl, hb⟩
  have HR1 := Lib.hid (HH.out.below hb)
  have HK1 := Lib.hid (RK.of_below hb hlt)
  have hl1 := HR1.out.lt
  clear hb c0 c1x c2 c3
  obtain ⟨c0, c1x, c2, c3⟩ := HR1.out.cells
  have f1 := HR1.out.frozen 1
  go_wp2_with fail
  have HR2 : Hid (RdR r s (at_ + 1) v 0 (w1.setCell ⟨r, 1, none⟩ (.int .i64 ((at_ : Int) + 1)))) := Lib.hid (by
    have := HR1.out.at_ (at_ + 1)
    rw [show ((at_ + 1 : Nat) : Int) = (at_ : Int) + 1 from by omega] at this
    exact this)
  have HK2 := Lib.hid (HK1.out.trans (RK.set r 1 w1 (.int .i64 ((at_ : Int) + 1))))
  clear c0 c1x c2 c3 f1
  refine (HL1.out _ HR2.out).mono ?_; rintro x w3 ⟨rfl, hb⟩
  have HR3 := Lib.hid (HR2.out.below hb)
  have HK3 := Lib.hid (HK2.out.trans (RK.of_below hb HR2.out.lt))
  clear hb
  obtain ⟨c0, c1x, c2, c3⟩ := HR3.out.cells
  have f1 := HR3.out.frozen 1
  go_wp2_with fail
  clear c0 c1x c2 c3 f1
  refine (HDS.out _ HR3.out).mono ?_; rintro x w4 ⟨rfl, ⟨hle, hr⟩, hk⟩
  have HR4 := Lib.hid hr
  have HK4 := Lib.hid (HK3.out.trans hk)
  clear hr hk
  obtain ⟨c0, c1x, c2, c3⟩ := HR4.out.cells
  go_wp2_with fail
  clear c0 c1x c2 c3
  go_ret
  refine ⟨?_, HK4.out⟩
  rw [HN.out]
  exact ⟨_, _, rfl, hle, HR4.out⟩
set_option maxRecDepth 100000 in
set_option maxHeartbeats 2000000 in
theorem rnumber_neg_zero (r : Nat) (s : ByteArray) (at_ : Nat) (v : Value) (ha : at_ ≤ s.size) (hs : s.size ≤ 1000000) (w : World) (h : RdR r s at_ v 0 w) (hc : lookJ 0 (s.data.toList.drop at_) = 45) (hlt0 : at_ < s.size) (hz : lookJ 0 (s.data.toList.drop (at_ + 1)) = 48) (hlt1 : (at_ + 1) < s.size)
    (HRD : Hid (∀ (x : ByteArray) (W : World), x.size ≤ maxLen → Calls Tryz.prog 77 #[.string x] W fun e w' => e = .returned (.tuple #[.int .i64 (rdV x.data.toList), .int .i64 (rdE x.data.toList)]) ∧ W = w')) :
    Calls Tryz.prog 53 #[.pointer (some ⟨r, 0, none⟩)] w fun x w' => NumE r s v (numJ (s.data.toList.drop at_)) x w' ∧ RK r w w' := by
  have HH := Lib.hid h
  have hlt := h.lt
  obtain ⟨N, hN⟩ : ∃ N, numJ (s.data.toList.drop at_) = N := ⟨_, rfl⟩
  have hside : (below (s.data.toList.drop at_) = true ∧ (at_ + 1) = at_ + 1 ∧ at_ < s.size) ∨ (below (s.data.toList.drop at_) = false ∧ (at_ + 1) = at_) := by
    rw [below_at]
    exact Or.inl ⟨decide_eq_true hc, rfl, hlt0⟩
  have hwl : (wholeJ (s.data.toList.drop (at_ + 1))).length = 1 := by rw [(whole_zero s _ hz).1]; rfl
  obtain ⟨hex, hbo⟩ := num_ext s at_ (at_ + 1) (at_ + 2) hside (by rw [hwl])
  have hwne : wholeJ (body (s.data.toList.drop at_)) ≠ [] := by
    rw [hbo]; intro h0; rw [h0] at hwl; cases hwl
  have hl2 : s.data.toList.drop (at_ + 2) = (body (s.data.toList.drop at_)).drop (wholeJ (body (s.data.toList.drop at_))).length := by
    rw [hbo, hwl, List.drop_drop]
  obtain ⟨T, hT⟩ : ∃ T, numT (s.data.toList.drop at_) = T := ⟨_, rfl⟩
  have HG : Hid (∀ (b1 b2 : Bool) (a3 a4 : Nat), b1 = (pointJ (s.data.toList.drop (at_ + 2))).isSome → s.data.toList.drop a3 = (pointJ (s.data.toList.drop (at_ + 2))).getD (s.data.toList.drop (at_ + 2)) → b2 = (powerJ (s.data.toList.drop a3)).isSome → s.data.toList.drop a4 = (powerJ (s.data.toList.drop a3)).getD (s.data.toList.drop a3) → N = if b1 || b2 || rdE T != 0 then .error 41 else .ok (rdV T, s.data.toList.drop a4)) := Lib.hid fun b1 b2 a3 a4 g1 g2 g3 g4 => by
    rw [← hN, ← hT]; exact numJ_good _ _ _ _ b1 b2 hwne hl2 g1 g2 g3 g4
  have ha2 : (at_ + 2) ≤ s.size := by omega
  have HRX : Hid (∀ W, Calls Tryz.prog 77 #[.string (s.extract at_ (at_ + 2))] W fun e w' => e = .returned (.tuple #[.int .i64 (rdV T), .int .i64 (rdE T)]) ∧ W = w') := Lib.hid fun W => by
    have := HRD.out (s.extract at_ (at_ + 2)) W (by rw [ByteArray.size_extract]; unfold maxLen; omega)
    rw [hex, hT] at this
    exact this
  have HL0 : Hid (∀ W, RdR r s at_ v 0 W → Calls Tryz.prog 48 #[.pointer (some ⟨r, 0, none⟩)] W fun x w' => x = .returned (.int .u8 ((lookJ 0 (s.data.toList.drop at_)).toNat : Int)) ∧ Below W.heap.size W w') := Lib.hid fun W h2 => rlook_any r s at_ v 0 ha hs W h2
  have HL1 : Hid (∀ W, RdR r s (at_ + 1) v 0 W → Calls Tryz.prog 48 #[.pointer (some ⟨r, 0, none⟩)] W fun x w' => x = .returned (.int .u8 ((lookJ 0 (s.data.toList.drop (at_ + 1))).toNat : Int)) ∧ Below W.heap.size W w') := Lib.hid fun W h2 => rlook_any r s (at_ + 1) v 0 (by omega) hs W h2
  rw [hc, show ((((45 : UInt8)).toNat : Nat) : Int) = 45 from rfl] at HL0
  rw [hz, show ((((48 : UInt8)).toNat : Nat) : Int) = 48 from rfl] at HL1
  have HPO : Hid (∀ W, RdR r s (at_ + 2) v 0 W → Calls Tryz.prog 76 #[.pointer (some ⟨r, 0, none⟩), .bool false] W fun x w' => PartE r s v (at_ + 2) (pointJ (s.data.toList.drop (at_ + 2))) x w' ∧ RK r W w') := Lib.hid fun W h2 => rpoint_any r s (at_ + 2) v ha2 hs W h2
  have HPW : Hid (∀ a3, a3 ≤ s.size → ∀ W, RdR r s a3 v 0 W → Calls Tryz.prog 76 #[.pointer (some ⟨r, 0, none⟩), .bool true] W fun x w' => PartE r s v a3 (powerJ (s.data.toList.drop a3)) x w' ∧ RK r W w') := Lib.hid fun a3 h1 W h2 => rpower_any r s a3 v h1 hs W h2
  have he : (rdE T != 0) = true ∨ (rdE T != 0) = false := by cases (rdE T != 0) <;> simp
  generalize rdE T = e2 at *
  generalize rdV T = n at *
  rw [hN]
  clear hN hside hex hbo hwl hwne hl2 hT hc hz
  obtain ⟨c0, c1x, c2, c3⟩ := h.cells
  clear h
  go_enter Tryz.func53, Tryz.ntmps53
  go_wp2_with fail
  refine (HL0.out _ HH.out).mono ?_; rintro x w1 ⟨rfl, hb⟩
  have HR1 := Lib.hid (HH.out.below hb)
  have HK1 := Lib.hid (RK.of_below hb hlt)
  have hl1 := HR1.out.lt
  clear hb c0 c1x c2 c3
  obtain ⟨c0, c1x, c2, c3⟩ := HR1.out.cells
  have f1 := HR1.out.frozen 1
  go_wp2_with fail
  have HR2 : Hid (RdR r s (at_ + 1) v 0 (w1.setCell ⟨r, 1, none⟩ (.int .i64 ((at_ : Int) + 1)))) := Lib.hid (by
    have := HR1.out.at_ (at_ + 1)
    rw [show ((at_ + 1 : Nat) : Int) = (at_ : Int) + 1 from by omega] at this
    exact this)
  have HK2 := Lib.hid (HK1.out.trans (RK.set r 1 w1 (.int .i64 ((at_ : Int) + 1))))
  clear c0 c1x c2 c3 f1
  refine (HL1.out _ HR2.out).mono ?_; rintro x w3 ⟨rfl, hb⟩
  have HR3 := Lib.hid (HR2.out.below hb)
  have HK3 := Lib.hid (HK2.out.trans (RK.of_below hb HR2.out.lt))
  clear hb
  obtain ⟨c0, c1x, c2, c3⟩ := HR3.out.cells
  have f1 := HR3.out.frozen 1
  go_wp2_with fail
  have HR4 : Hid (RdR r s (at_ + 2) v 0 (w3.setCell ⟨r, 1, none⟩ (.int .i64 ((at_ : Int) + 2)))) := Lib.hid (by
    have := HR3.out.at_ (at_ + 2)
    rw [show (((at_ + 2) : Nat) : Int) = (at_ : Int) + 2 from by omega] at this
    exact this)
  have HK4 := Lib.hid (HK3.out.trans (RK.set r 1 w3 (.int .i64 ((at_ : Int) + 2))))
  clear c0 c1x c2 c3 f1
  refine (HPO.out _ HR4.out).mono ?_; rintro x w5 ⟨hp, hk⟩
  obtain ⟨b1, a3, rfl, hb1, ha3, hd3, hr3⟩ := hp.form ha2
  have HR5 := Lib.hid hr3
  have HK5 := Lib.hid (HK4.out.trans hk)
  have HB1 := Lib.hid hb1
  have HD3 := Lib.hid hd3
  clear hp hk hb1 hd3 hr3
  obtain ⟨c0, c1x, c2, c3⟩ := HR5.out.cells
  go_wp2_with fail
  clear c0 c1x c2 c3
  refine (HPW.out a3 ha3 _ HR5.out).mono ?_; rintro x w6 ⟨hp, hk⟩
  obtain ⟨b2, a4, rfl, hb2, ha4, hd4, hr4⟩ := hp.form ha3
  have HR6 := Lib.hid hr4
  have HK6 := Lib.hid (HK5.out.trans hk)
  have HNN := Lib.hid (HG.out b1 b2 a3 a4 HB1.out HD3.out hb2 hd4)
  clear hp hk hb2 hd4 hr4
  obtain ⟨c0, c1x, c2, c3⟩ := HR6.out.cells
  have HFA : Hid (∀ W, RdR r s a4 v 0 W → Calls Tryz.prog 27 #[.pointer (some ⟨r, 0, none⟩), .int .i64 41] W fun x w' => x = .returned (.tuple #[]) ∧ RdR r s a4 v 41 w' ∧ RK r W w') := Lib.hid fun W hW => by
    have := rfail_any r s a4 v 0 41 W hW
    rw [if_pos rfl] at this
    exact this
  cases b1 <;> cases b2 <;> rcases he with he | he
  all_goals
    rw [he] at HNN
    go_wp2_with fail
    refine (HRX.out _).mono ?_; rintro x w7 ⟨rfl, rfl⟩
    go_wp2_with fail
    first
      | (refine (HFA.out _ HR6.out).mono ?_
         rintro x w8 ⟨rfl, hr, hk⟩
         have HF := Lib.hid hr
         have HK8 := Lib.hid (HK6.out.trans hk)
         clear hr hk
         go_wp2_with fail
         go_ret
         refine ⟨?_, HK8.out⟩
         rw [HNN.out]
         exact ⟨_, _, rfl, ha4, HF.out⟩)
      | (go_ret
         refine ⟨?_, HK6.out⟩
         rw [HNN.out]
         exact ⟨rfl, _, ha4, rfl, HR6.out⟩)
set_option maxRecDepth 100000 in
set_option maxHeartbeats 2000000 in
theorem rnumber_neg_dig (r : Nat) (s : ByteArray) (at_ : Nat) (v : Value) (ha : at_ ≤ s.size) (hs : s.size ≤ 1000000) (w : World) (h : RdR r s at_ v 0 w) (hc : lookJ 0 (s.data.toList.drop at_) = 45) (hlt0 : at_ < s.size) (hz : lookJ 0 (s.data.toList.drop (at_ + 1)) ≠ 48) (hk : ¬ digK 0 (s.data.toList.drop (at_ + 1)) = 0) (hkl : ((at_ + 1) + digK 0 (s.data.toList.drop (at_ + 1))) ≤ s.size)
    (HRD : Hid (∀ (x : ByteArray) (W : World), x.size ≤ maxLen → Calls Tryz.prog 77 #[.string x] W fun e w' => e = .returned (.tuple #[.int .i64 (rdV x.data.toList), .int .i64 (rdE x.data.toList)]) ∧ W = w')) :
    Calls Tryz.prog 53 #[.pointer (some ⟨r, 0, none⟩)] w fun x w' => NumE r s v (numJ (s.data.toList.drop at_)) x w' ∧ RK r w w' := by
  have HH := Lib.hid h
  have hlt := h.lt
  obtain ⟨N, hN⟩ : ∃ N, numJ (s.data.toList.drop at_) = N := ⟨_, rfl⟩
  have hside : (below (s.data.toList.drop at_) = true ∧ (at_ + 1) = at_ + 1 ∧ at_ < s.size) ∨ (below (s.data.toList.drop at_) = false ∧ (at_ + 1) = at_) := by
    rw [below_at]
    exact Or.inl ⟨decide_eq_true hc, rfl, hlt0⟩
  have hwl := (whole_digits s _ hz).2
  obtain ⟨hex, hbo⟩ := num_ext s at_ (at_ + 1) ((at_ + 1) + digK 0 (s.data.toList.drop (at_ + 1))) hside (by rw [hwl])
  have hwne : wholeJ (body (s.data.toList.drop at_)) ≠ [] := by
    rw [hbo]; intro h0; rw [h0] at hwl; exact hk hwl.symm
  have hl2 : s.data.toList.drop ((at_ + 1) + digK 0 (s.data.toList.drop (at_ + 1))) = (body (s.data.toList.drop at_)).drop (wholeJ (body (s.data.toList.drop at_))).length := by
    rw [hbo, hwl, List.drop_drop]
  obtain ⟨T, hT⟩ : ∃ T, numT (s.data.toList.drop at_) = T := ⟨_, rfl⟩
  have HG : Hid (∀ (b1 b2 : Bool) (a3 a4 : Nat), b1 = (pointJ (s.data.toList.drop ((at_ + 1) + digK 0 (s.data.toList.drop (at_ + 1))))).isSome → s.data.toList.drop a3 = (pointJ (s.data.toList.drop ((at_ + 1) + digK 0 (s.data.toList.drop (at_ + 1))))).getD (s.data.toList.drop ((at_ + 1) + digK 0 (s.data.toList.drop (at_ + 1)))) → b2 = (powerJ (s.data.toList.drop a3)).isSome → s.data.toList.drop a4 = (powerJ (s.data.toList.drop a3)).getD (s.data.toList.drop a3) → N = if b1 || b2 || rdE T != 0 then .error 41 else .ok (rdV T, s.data.toList.drop a4)) := Lib.hid fun b1 b2 a3 a4 g1 g2 g3 g4 => by
    rw [← hN, ← hT]; exact numJ_good _ _ _ _ b1 b2 hwne hl2 g1 g2 g3 g4
  have ha2 : ((at_ + 1) + digK 0 (s.data.toList.drop (at_ + 1))) ≤ s.size := by omega
  have HRX : Hid (∀ W, Calls Tryz.prog 77 #[.string (s.extract at_ ((at_ + 1) + digK 0 (s.data.toList.drop (at_ + 1))))] W fun e w' => e = .returned (.tuple #[.int .i64 (rdV T), .int .i64 (rdE T)]) ∧ W = w') := Lib.hid fun W => by
    have := HRD.out (s.extract at_ ((at_ + 1) + digK 0 (s.data.toList.drop (at_ + 1)))) W (by rw [ByteArray.size_extract]; unfold maxLen; omega)
    rw [hex, hT] at this
    exact this
  have HL0 : Hid (∀ W, RdR r s at_ v 0 W → Calls Tryz.prog 48 #[.pointer (some ⟨r, 0, none⟩)] W fun x w' => x = .returned (.int .u8 ((lookJ 0 (s.data.toList.drop at_)).toNat : Int)) ∧ Below W.heap.size W w') := Lib.hid fun W h2 => rlook_any r s at_ v 0 ha hs W h2
  have HL1 : Hid (∀ W, RdR r s (at_ + 1) v 0 W → Calls Tryz.prog 48 #[.pointer (some ⟨r, 0, none⟩)] W fun x w' => x = .returned (.int .u8 ((lookJ 0 (s.data.toList.drop (at_ + 1))).toNat : Int)) ∧ Below W.heap.size W w') := Lib.hid fun W h2 => rlook_any r s (at_ + 1) v 0 (by omega) hs W h2
  have HDS : Hid (∀ W, RdR r s (at_ + 1) v 0 W → Calls Tryz.prog 75 #[.pointer (some ⟨r, 0, none⟩)] W fun x w' => x = .returned (.tuple #[]) ∧ (((at_ + 1) + digK 0 (s.data.toList.drop (at_ + 1))) ≤ s.size ∧ RdR r s ((at_ + 1) + digK 0 (s.data.toList.drop (at_ + 1))) v 0 w') ∧ RK r W w') := Lib.hid fun W h2 => by
    have := rdigits_any r s (at_ + 1) v 0 (by omega) hs W h2
    rw [if_neg (fun hh => hk hh.2)] at this
    exact this
  rw [hc, show ((((45 : UInt8)).toNat : Nat) : Int) = 45 from rfl] at HL0
  have t1 : (((lookJ 0 (s.data.toList.drop (at_ + 1))).toNat : Int) == 48) = false := beq_eq_false_iff_ne.2 fun e => hz (UInt8.toNat_inj.1 (by show _ = 48; omega))
  generalize ((lookJ 0 (s.data.toList.drop (at_ + 1))).toNat : Int) = c1 at *
  have HPO : Hid (∀ W, RdR r s ((at_ + 1) + digK 0 (s.data.toList.drop (at_ + 1))) v 0 W → Calls Tryz.prog 76 #[.pointer (some ⟨r, 0, none⟩), .bool false] W fun x w' => PartE r s v ((at_ + 1) + digK 0 (s.data.toList.drop (at_ + 1))) (pointJ (s.data.toList.drop ((at_ + 1) + digK 0 (s.data.toList.drop (at_ + 1))))) x w' ∧ RK r W w') := Lib.hid fun W h2 => rpoint_any r s ((at_ + 1) + digK 0 (s.data.toList.drop (at_ + 1))) v ha2 hs W h2
  have HPW : Hid (∀ a3, a3 ≤ s.size → ∀ W, RdR r s a3 v 0 W → Calls Tryz.prog 76 #[.pointer (some ⟨r, 0, none⟩), .bool true] W fun x w' => PartE r s v a3 (powerJ (s.data.toList.drop a3)) x w' ∧ RK r W w') := Lib.hid fun a3 h1 W h2 => rpower_any r s a3 v h1 hs W h2
  have he : (rdE T != 0) = true ∨ (rdE T != 0) = false := by cases (rdE T != 0) <;> simp
  generalize rdE T = e2 at *
  generalize rdV T = n at *
  rw [hN]
  clear hN hside hex hbo hwl hwne hl2 hT hc hz hk
  obtain ⟨c0, c1x, c2, c3⟩ := h.cells
  clear h
  go_enter Tryz.func53, Tryz.ntmps53
  go_wp2_with fail
  refine (HL0.out _ HH.out).mono ?_; rintro x w1 ⟨rfl, hb⟩
  have HR1 := Lib.hid (HH.out.below hb)
  have HK1 := Lib.hid (RK.of_below hb hlt)
  have hl1 := HR1.out.lt
  clear hb c0 c1x c2 c3
  obtain ⟨c0, c1x, c2, c3⟩ := HR1.out.cells
  have f1 := HR1.out.frozen 1
  go_wp2_with fail
  have HR2 : Hid (RdR r s (at_ + 1) v 0 (w1.setCell ⟨r, 1, none⟩ (.int .i64 ((at_ : Int) + 1)))) := Lib.hid (by
    have := HR1.out.at_ (at_ + 1)
    rw [show ((at_ + 1 : Nat) : Int) = (at_ : Int) + 1 from by omega] at this
    exact this)
  have HK2 := Lib.hid (HK1.out.trans (RK.set r 1 w1 (.int .i64 ((at_ : Int) + 1))))
  clear c0 c1x c2 c3 f1
  refine (HL1.out _ HR2.out).mono ?_; rintro x w3 ⟨rfl, hb⟩
  have HR3 := Lib.hid (HR2.out.below hb)
  have HK3 := Lib.hid (HK2.out.trans (RK.of_below hb HR2.out.lt))
  clear hb
  obtain ⟨c0, c1x, c2, c3⟩ := HR3.out.cells
  have f1 := HR3.out.frozen 1
  go_wp2_with fail
  clear c0 c1x c2 c3 f1
  refine (HDS.out _ HR3.out).mono ?_; rintro x w4 ⟨rfl, ⟨hle, hr⟩, hk⟩
  have HR4 := Lib.hid hr
  have HK4 := Lib.hid (HK3.out.trans hk)
  clear hr hk
  obtain ⟨c0, c1x, c2, c3⟩ := HR4.out.cells
  go_wp2_with fail
  clear c0 c1x c2 c3
  refine (HPO.out _ HR4.out).mono ?_; rintro x w5 ⟨hp, hk⟩
  obtain ⟨b1, a3, rfl, hb1, ha3, hd3, hr3⟩ := hp.form ha2
  have HR5 := Lib.hid hr3
  have HK5 := Lib.hid (HK4.out.trans hk)
  have HB1 := Lib.hid hb1
  have HD3 := Lib.hid hd3
  clear hp hk hb1 hd3 hr3
  obtain ⟨c0, c1x, c2, c3⟩ := HR5.out.cells
  go_wp2_with fail
  clear c0 c1x c2 c3
  refine (HPW.out a3 ha3 _ HR5.out).mono ?_; rintro x w6 ⟨hp, hk⟩
  obtain ⟨b2, a4, rfl, hb2, ha4, hd4, hr4⟩ := hp.form ha3
  have HR6 := Lib.hid hr4
  have HK6 := Lib.hid (HK5.out.trans hk)
  have HNN := Lib.hid (HG.out b1 b2 a3 a4 HB1.out HD3.out hb2 hd4)
  clear hp hk hb2 hd4 hr4
  obtain ⟨c0, c1x, c2, c3⟩ := HR6.out.cells
  have HFA : Hid (∀ W, RdR r s a4 v 0 W → Calls Tryz.prog 27 #[.pointer (some ⟨r, 0, none⟩), .int .i64 41] W fun x w' => x = .returned (.tuple #[]) ∧ RdR r s a4 v 41 w' ∧ RK r W w') := Lib.hid fun W hW => by
    have := rfail_any r s a4 v 0 41 W hW
    rw [if_pos rfl] at this
    exact this
  cases b1 <;> cases b2 <;> rcases he with he | he
  all_goals
    rw [he] at HNN
    go_wp2_with fail
    refine (HRX.out _).mono ?_; rintro x w7 ⟨rfl, rfl⟩
    go_wp2_with fail
    first
      | (refine (HFA.out _ HR6.out).mono ?_
         rintro x w8 ⟨rfl, hr, hk⟩
         have HF := Lib.hid hr
         have HK8 := Lib.hid (HK6.out.trans hk)
         clear hr hk
         go_wp2_with fail
         go_ret
         refine ⟨?_, HK8.out⟩
         rw [HNN.out]
         exact ⟨_, _, rfl, ha4, HF.out⟩)
      | (go_ret
         refine ⟨?_, HK6.out⟩
         rw [HNN.out]
         exact ⟨rfl, _, ha4, rfl, HR6.out⟩)
end Go.Proofs.YtglhanblbojkhaaGreatDoor
