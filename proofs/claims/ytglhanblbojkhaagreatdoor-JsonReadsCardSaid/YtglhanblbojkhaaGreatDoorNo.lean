/- The walks through the reference's JSON reader (provostref04): more. -/
import Derived.Test.YtglhanblbojkhaaGreatDoorNd
set_option linter.unusedSimpArgs false
set_option linter.unusedVariables false
namespace Go.Proofs.YtglhanblbojkhaaGreatDoor
open Go.RowKit
/-- Where a part of a number ends. -/
def PartE (r : Nat) (s : ByteArray) (v : Value) (at_ : Nat) (o : Option (List UInt8)) (x : Ending) (W : World) : Prop := match o with
  | none => x = .returned (.bool false) ∧ RdR r s at_ v 0 W
  | some t => x = .returned (.bool true) ∧ ∃ a, a ≤ s.size ∧ s.data.toList.drop a = t ∧ RdR r s a v 0 W
theorem drop_take_len (s : ByteArray) (i : Nat) : s.data.toList.drop (i + digK 0 (s.data.toList.drop i)) = (s.data.toList.drop i).dropWhile isDig := by
  unfold digK
  rw [if_pos rfl, ← List.drop_drop]
  generalize s.data.toList.drop i = l
  induction l with
  | nil => rfl
  | cons c t ih =>
    rw [List.takeWhile_cons, List.dropWhile_cons]
    split
    · rw [List.length_cons, List.drop_succ_cons]; exact ih
    · rfl
theorem isDig_iff (c : UInt8) : isDig c = true ↔ 48 ≤ c.toNat ∧ c.toNat ≤ 57 := by unfold isDig; exact decide_eq_true_iff
set_option maxRecDepth 100000 in
set_option maxHeartbeats 2000000 in
theorem rpoint_no (r : Nat) (s : ByteArray) (at_ : Nat) (v : Value) (ha : at_ ≤ s.size) (hs : s.size ≤ 1000000) (w : World) (h : RdR r s at_ v 0 w) (hm : lookJ 0 (s.data.toList.drop at_) ≠ 46) :
    Calls Tryz.prog 76 #[.pointer (some ⟨r, 0, none⟩), .bool false] w fun x w' => (x = .returned (.bool false) ∧ RdR r s at_ v 0 w') ∧ RK r w w' := by
  have HH := Lib.hid h
  have hlt := h.lt
  have HLA : Hid (∀ W, Below w.heap.size w W → Calls Tryz.prog 48 #[.pointer (some ⟨r, 0, none⟩)] W fun x w' => x = .returned (.int .u8 ((lookJ 0 (s.data.toList.drop at_)).toNat : Int)) ∧ Below W.heap.size W w') := Lib.hid fun W hW => rlook_any r s at_ v 0 ha hs W (HH.out.below hW)
  obtain ⟨c0, c1, c2, c3⟩ := h.cells
  have t1 : (((lookJ 0 (s.data.toList.drop at_)).toNat : Int) != 46) = true := bne_iff_ne.2 fun e => hm (UInt8.toNat_inj.1 (by show _ = 46; omega))
  generalize ((lookJ 0 (s.data.toList.drop at_)).toNat : Int) = ci at *
  clear h
  go_enter Tryz.func76, Tryz.ntmps76
  go_wp2_with fail
  refine (HLA.out _ (Below.refl _ _)).mono ?_; rintro x w1 ⟨rfl, hb⟩
  have HB1 := Lib.hid hb
  clear hb
  have HRN := Lib.hid (HH.out.below HB1.out)
  have HKN := Lib.hid (RK.of_below HB1.out hlt)
  obtain ⟨c0, c1, c2, c3⟩ := HRN.out.cells
  have f1 := HRN.out.frozen 1
  go_wp2_with fail
  go_ret
  exact ⟨⟨rfl, HRN.out⟩, HKN.out⟩
set_option maxRecDepth 100000 in
set_option maxHeartbeats 2000000 in
theorem rpoint_out (r : Nat) (s : ByteArray) (at_ : Nat) (v : Value) (ha : at_ ≤ s.size) (hs : s.size ≤ 1000000) (w : World) (h : RdR r s at_ v 0 w) (hm : lookJ 0 (s.data.toList.drop at_) = 46) (hq : ¬ at_ + 1 < s.size) :
    Calls Tryz.prog 76 #[.pointer (some ⟨r, 0, none⟩), .bool false] w fun x w' => (x = .returned (.bool false) ∧ RdR r s at_ v 0 w') ∧ RK r w w' := by
  have HH := Lib.hid h
  have hlt := h.lt
  have HLA : Hid (∀ W, Below w.heap.size w W → Calls Tryz.prog 48 #[.pointer (some ⟨r, 0, none⟩)] W fun x w' => x = .returned (.int .u8 ((lookJ 0 (s.data.toList.drop at_)).toNat : Int)) ∧ Below W.heap.size W w') := Lib.hid fun W hW => rlook_any r s at_ v 0 ha hs W (HH.out.below hW)
  obtain ⟨c0, c1, c2, c3⟩ := h.cells
  rw [hm] at HLA
  rw [show ((((46 : UInt8)).toNat : Nat) : Int) = 46 from rfl] at HLA
  clear hm
  clear h
  go_enter Tryz.func76, Tryz.ntmps76
  go_wp2_with fail
  refine (HLA.out _ (Below.refl _ _)).mono ?_; rintro x w1 ⟨rfl, hb⟩
  have HB1 := Lib.hid hb
  clear hb
  have HRN := Lib.hid (HH.out.below HB1.out)
  have HKN := Lib.hid (RK.of_below HB1.out hlt)
  obtain ⟨c0, c1, c2, c3⟩ := HRN.out.cells
  have f1 := HRN.out.frozen 1
  go_wp2_with fail
  go_ret
  exact ⟨⟨rfl, HRN.out⟩, HKN.out⟩
set_option maxRecDepth 100000 in
set_option maxHeartbeats 2000000 in
theorem rpoint_low (r : Nat) (s : ByteArray) (at_ : Nat) (v : Value) (ha : at_ ≤ s.size) (hs : s.size ≤ 1000000) (w : World) (h : RdR r s at_ v 0 w) (hm : lookJ 0 (s.data.toList.drop at_) = 46) (hq : at_ + 1 < s.size) (hlo : s[at_ + 1].toNat < 48) :
    Calls Tryz.prog 76 #[.pointer (some ⟨r, 0, none⟩), .bool false] w fun x w' => (x = .returned (.bool false) ∧ RdR r s at_ v 0 w') ∧ RK r w w' := by
  have HH := Lib.hid h
  have hlt := h.lt
  have HLA : Hid (∀ W, Below w.heap.size w W → Calls Tryz.prog 48 #[.pointer (some ⟨r, 0, none⟩)] W fun x w' => x = .returned (.int .u8 ((lookJ 0 (s.data.toList.drop at_)).toNat : Int)) ∧ Below W.heap.size W w') := Lib.hid fun W hW => rlook_any r s at_ v 0 ha hs W (HH.out.below hW)
  obtain ⟨c0, c1, c2, c3⟩ := h.cells
  rw [hm] at HLA
  rw [show ((((46 : UInt8)).toNat : Nat) : Int) = 46 from rfl] at HLA
  clear hm
  have hy1 : decide ((s[at_ + 1].toNat : Int) < 48) = true := decide_eq_true (by omega)
  clear h
  go_enter Tryz.func76, Tryz.ntmps76
  go_wp2_with fail
  refine (HLA.out _ (Below.refl _ _)).mono ?_; rintro x w1 ⟨rfl, hb⟩
  have HB1 := Lib.hid hb
  clear hb
  have HRN := Lib.hid (HH.out.below HB1.out)
  have HKN := Lib.hid (RK.of_below HB1.out hlt)
  obtain ⟨c0, c1, c2, c3⟩ := HRN.out.cells
  have f1 := HRN.out.frozen 1
  go_wp2_with fail
  go_ret
  exact ⟨⟨rfl, HRN.out⟩, HKN.out⟩
set_option maxRecDepth 100000 in
set_option maxHeartbeats 2000000 in
theorem rpoint_high (r : Nat) (s : ByteArray) (at_ : Nat) (v : Value) (ha : at_ ≤ s.size) (hs : s.size ≤ 1000000) (w : World) (h : RdR r s at_ v 0 w) (hm : lookJ 0 (s.data.toList.drop at_) = 46) (hq : at_ + 1 < s.size) (hhi : 57 < s[at_ + 1].toNat) :
    Calls Tryz.prog 76 #[.pointer (some ⟨r, 0, none⟩), .bool false] w fun x w' => (x = .returned (.bool false) ∧ RdR r s at_ v 0 w') ∧ RK r w w' := by
  have HH := Lib.hid h
  have hlt := h.lt
  have HLA : Hid (∀ W, Below w.heap.size w W → Calls Tryz.prog 48 #[.pointer (some ⟨r, 0, none⟩)] W fun x w' => x = .returned (.int .u8 ((lookJ 0 (s.data.toList.drop at_)).toNat : Int)) ∧ Below W.heap.size W w') := Lib.hid fun W hW => rlook_any r s at_ v 0 ha hs W (HH.out.below hW)
  obtain ⟨c0, c1, c2, c3⟩ := h.cells
  rw [hm] at HLA
  rw [show ((((46 : UInt8)).toNat : Nat) : Int) = 46 from rfl] at HLA
  clear hm
  have hy1 : decide ((s[at_ + 1].toNat : Int) < 48) = false := decide_eq_false (by omega)
  have hy2 : decide ((57 : Int) < (s[at_ + 1].toNat : Int)) = true := decide_eq_true (by omega)
  clear h
  go_enter Tryz.func76, Tryz.ntmps76
  go_wp2_with fail
  refine (HLA.out _ (Below.refl _ _)).mono ?_; rintro x w1 ⟨rfl, hb⟩
  have HB1 := Lib.hid hb
  clear hb
  have HRN := Lib.hid (HH.out.below HB1.out)
  have HKN := Lib.hid (RK.of_below HB1.out hlt)
  obtain ⟨c0, c1, c2, c3⟩ := HRN.out.cells
  have f1 := HRN.out.frozen 1
  go_wp2_with fail
  go_ret
  exact ⟨⟨rfl, HRN.out⟩, HKN.out⟩
set_option maxRecDepth 100000 in
set_option maxHeartbeats 2000000 in
theorem rpoint_dig (r : Nat) (s : ByteArray) (at_ : Nat) (v : Value) (ha : at_ ≤ s.size) (hs : s.size ≤ 1000000) (w : World) (h : RdR r s at_ v 0 w) (hm : lookJ 0 (s.data.toList.drop at_) = 46) (hq : at_ + 1 < s.size) (hlo : 48 ≤ s[at_ + 1].toNat) (hhi : s[at_ + 1].toNat ≤ 57) :
    Calls Tryz.prog 76 #[.pointer (some ⟨r, 0, none⟩), .bool false] w fun x w' => (x = .returned (.bool true) ∧ at_ + 1 + digK 0 (s.data.toList.drop (at_ + 1)) ≤ s.size ∧ RdR r s (at_ + 1 + digK 0 (s.data.toList.drop (at_ + 1))) v 0 w') ∧ RK r w w' := by
  have HH := Lib.hid h
  have hlt := h.lt
  have HLA : Hid (∀ W, Below w.heap.size w W → Calls Tryz.prog 48 #[.pointer (some ⟨r, 0, none⟩)] W fun x w' => x = .returned (.int .u8 ((lookJ 0 (s.data.toList.drop at_)).toNat : Int)) ∧ Below W.heap.size W w') := Lib.hid fun W hW => rlook_any r s at_ v 0 ha hs W (HH.out.below hW)
  obtain ⟨c0, c1, c2, c3⟩ := h.cells
  rw [hm] at HLA
  rw [show ((((46 : UInt8)).toNat : Nat) : Int) = 46 from rfl] at HLA
  clear hm
  have hy1 : decide ((s[at_ + 1].toNat : Int) < 48) = false := decide_eq_false (by omega)
  have hy2 : decide ((57 : Int) < (s[at_ + 1].toNat : Int)) = false := decide_eq_false (by omega)
  have HDS : Hid (∀ W, RdR r s (at_ + 1) v 0 W → Calls Tryz.prog 75 #[.pointer (some ⟨r, 0, none⟩)] W fun x w' => x = .returned (.tuple #[]) ∧ (at_ + 1 + digK 0 (s.data.toList.drop (at_ + 1)) ≤ s.size ∧ RdR r s (at_ + 1 + digK 0 (s.data.toList.drop (at_ + 1))) v 0 w') ∧ RK r W w') := Lib.hid fun W hW => by
    have := rdigits_any r s (at_ + 1) v 0 (by omega) hs W hW
    rw [if_neg (show ¬ ((0 : Int) = 0 ∧ digK 0 (s.data.toList.drop (at_ + 1)) = 0) from fun hh => by
      have h2 := (digK_go (e := 0) (s := s) (a := at_ + 1) (by unfold lookJ; rw [if_neg (by simp), drop_at s _ hq, List.headD_cons]; exact (isDig_iff _).2 ⟨hlo, hhi⟩)).2.2
      omega)] at this
    exact this
  clear h
  go_enter Tryz.func76, Tryz.ntmps76
  go_wp2_with fail
  refine (HLA.out _ (Below.refl _ _)).mono ?_; rintro x w1 ⟨rfl, hb⟩
  have HB1 := Lib.hid hb
  clear hb
  have HRN := Lib.hid (HH.out.below HB1.out)
  have HKN := Lib.hid (RK.of_below HB1.out hlt)
  obtain ⟨c0, c1, c2, c3⟩ := HRN.out.cells
  have f1 := HRN.out.frozen 1
  go_wp2_with fail
  have HRM : Hid (RdR r s (at_ + 1) v 0 (w1.setCell ⟨r, 1, none⟩ (.int .i64 ((at_ : Int) + 1)))) := Lib.hid (by
    have := HRN.out.at_ (at_ + 1)
    rw [show ((at_ + 1 : Nat) : Int) = (at_ : Int) + 1 from by omega] at this
    exact this)
  refine (HDS.out _ HRM.out).mono ?_; rintro x w9 ⟨rfl, ⟨hr1, hr2⟩, hk⟩
  have HE : Hid ((at_ + 1 + digK 0 (s.data.toList.drop (at_ + 1)) ≤ s.size ∧ RdR r s (at_ + 1 + digK 0 (s.data.toList.drop (at_ + 1))) v 0 w9) ∧ RK r w w9) := Lib.hid ⟨⟨hr1, hr2⟩, (HKN.out.trans (RK.set _ _ _ _)).trans hk⟩
  clear hr1 hr2 hk
  go_wp2_with fail
  go_ret
  exact ⟨⟨rfl, HE.out.1⟩, HE.out.2⟩
set_option maxRecDepth 100000 in
set_option maxHeartbeats 2000000 in
theorem rpower_no (r : Nat) (s : ByteArray) (at_ : Nat) (v : Value) (ha : at_ ≤ s.size) (hs : s.size ≤ 1000000) (w : World) (h : RdR r s at_ v 0 w) (hm1 : lookJ 0 (s.data.toList.drop at_) ≠ 101) (hm2 : lookJ 0 (s.data.toList.drop at_) ≠ 69) :
    Calls Tryz.prog 76 #[.pointer (some ⟨r, 0, none⟩), .bool true] w fun x w' => (x = .returned (.bool false) ∧ RdR r s at_ v 0 w') ∧ RK r w w' := by
  have HH := Lib.hid h
  have hlt := h.lt
  have HLA : Hid (∀ W, Below w.heap.size w W → Calls Tryz.prog 48 #[.pointer (some ⟨r, 0, none⟩)] W fun x w' => x = .returned (.int .u8 ((lookJ 0 (s.data.toList.drop at_)).toNat : Int)) ∧ Below W.heap.size W w') := Lib.hid fun W hW => rlook_any r s at_ v 0 ha hs W (HH.out.below hW)
  obtain ⟨c0, c1, c2, c3⟩ := h.cells
  have t1 : (((lookJ 0 (s.data.toList.drop at_)).toNat : Int) != 101) = true := bne_iff_ne.2 fun e => hm1 (UInt8.toNat_inj.1 (by show _ = 101; omega))
  have t2 : (((lookJ 0 (s.data.toList.drop at_)).toNat : Int) != 69) = true := bne_iff_ne.2 fun e => hm2 (UInt8.toNat_inj.1 (by show _ = 69; omega))
  generalize ((lookJ 0 (s.data.toList.drop at_)).toNat : Int) = ci at *
  clear h
  go_enter Tryz.func76, Tryz.ntmps76
  go_wp2_with fail
  refine (HLA.out _ (Below.refl _ _)).mono ?_; rintro x w1 ⟨rfl, hb⟩
  have HB1 := Lib.hid hb
  clear hb
  go_wp2_with fail
  refine (HLA.out _ HB1.out).mono ?_; rintro x w2 ⟨rfl, hb⟩
  have HB2 : Hid (Below w.heap.size w w2) := Lib.hid (HB1.out.trans (hb.mono HB1.out.size))
  clear hb
  have HRN := Lib.hid (HH.out.below HB2.out)
  have HKN := Lib.hid (RK.of_below HB2.out hlt)
  obtain ⟨c0, c1, c2, c3⟩ := HRN.out.cells
  have f1 := HRN.out.frozen 1
  go_wp2_with fail
  go_ret
  exact ⟨⟨rfl, HRN.out⟩, HKN.out⟩
set_option maxRecDepth 100000 in
set_option maxHeartbeats 2000000 in
theorem rpower101_none_out (r : Nat) (s : ByteArray) (at_ : Nat) (v : Value) (ha : at_ ≤ s.size) (hs : s.size ≤ 1000000) (w : World) (h : RdR r s at_ v 0 w) (hm : lookJ 0 (s.data.toList.drop at_) = 101) (h1 : ¬ at_ + 1 < s.size) (hq : ¬ at_ + 1 < s.size) :
    Calls Tryz.prog 76 #[.pointer (some ⟨r, 0, none⟩), .bool true] w fun x w' => (x = .returned (.bool false) ∧ RdR r s at_ v 0 w') ∧ RK r w w' := by
  have HH := Lib.hid h
  have hlt := h.lt
  have HLA : Hid (∀ W, Below w.heap.size w W → Calls Tryz.prog 48 #[.pointer (some ⟨r, 0, none⟩)] W fun x w' => x = .returned (.int .u8 ((lookJ 0 (s.data.toList.drop at_)).toNat : Int)) ∧ Below W.heap.size W w') := Lib.hid fun W hW => rlook_any r s at_ v 0 ha hs W (HH.out.below hW)
  obtain ⟨c0, c1, c2, c3⟩ := h.cells
  rw [hm] at HLA
  rw [show ((((101 : UInt8)).toNat : Nat) : Int) = 101 from rfl] at HLA
  clear hm
  clear h
  go_enter Tryz.func76, Tryz.ntmps76
  go_wp2_with fail
  refine (HLA.out _ (Below.refl _ _)).mono ?_; rintro x w1 ⟨rfl, hb⟩
  have HB1 := Lib.hid hb
  clear hb
  have HRN := Lib.hid (HH.out.below HB1.out)
  have HKN := Lib.hid (RK.of_below HB1.out hlt)
  obtain ⟨c0, c1, c2, c3⟩ := HRN.out.cells
  have f1 := HRN.out.frozen 1
  go_wp2_with fail
  go_ret
  exact ⟨⟨rfl, HRN.out⟩, HKN.out⟩
set_option maxRecDepth 100000 in
set_option maxHeartbeats 2000000 in
theorem rpower101_other_low (r : Nat) (s : ByteArray) (at_ : Nat) (v : Value) (ha : at_ ≤ s.size) (hs : s.size ≤ 1000000) (w : World) (h : RdR r s at_ v 0 w) (hm : lookJ 0 (s.data.toList.drop at_) = 101) (h1 : at_ + 1 < s.size) (hs1 : s[at_ + 1].toNat ≠ 43) (hs2 : s[at_ + 1].toNat ≠ 45) (hq : at_ + 1 < s.size) (hlo : s[at_ + 1].toNat < 48) :
    Calls Tryz.prog 76 #[.pointer (some ⟨r, 0, none⟩), .bool true] w fun x w' => (x = .returned (.bool false) ∧ RdR r s at_ v 0 w') ∧ RK r w w' := by
  have HH := Lib.hid h
  have hlt := h.lt
  have HLA : Hid (∀ W, Below w.heap.size w W → Calls Tryz.prog 48 #[.pointer (some ⟨r, 0, none⟩)] W fun x w' => x = .returned (.int .u8 ((lookJ 0 (s.data.toList.drop at_)).toNat : Int)) ∧ Below W.heap.size W w') := Lib.hid fun W hW => rlook_any r s at_ v 0 ha hs W (HH.out.below hW)
  obtain ⟨c0, c1, c2, c3⟩ := h.cells
  rw [hm] at HLA
  rw [show ((((101 : UInt8)).toNat : Nat) : Int) = 101 from rfl] at HLA
  clear hm
  have hx1 : ((s[at_ + 1].toNat : Int) == 43) = false := beq_eq_false_iff_ne.2 (by omega)
  have hx2 : ((s[at_ + 1].toNat : Int) == 45) = false := beq_eq_false_iff_ne.2 (by omega)
  have hy1 : decide ((s[at_ + 1].toNat : Int) < 48) = true := decide_eq_true (by omega)
  clear h
  go_enter Tryz.func76, Tryz.ntmps76
  go_wp2_with fail
  refine (HLA.out _ (Below.refl _ _)).mono ?_; rintro x w1 ⟨rfl, hb⟩
  have HB1 := Lib.hid hb
  clear hb
  have HRN := Lib.hid (HH.out.below HB1.out)
  have HKN := Lib.hid (RK.of_below HB1.out hlt)
  obtain ⟨c0, c1, c2, c3⟩ := HRN.out.cells
  have f1 := HRN.out.frozen 1
  go_wp2_with fail
  go_ret
  exact ⟨⟨rfl, HRN.out⟩, HKN.out⟩
set_option maxRecDepth 100000 in
set_option maxHeartbeats 2000000 in
theorem rpower101_other_high (r : Nat) (s : ByteArray) (at_ : Nat) (v : Value) (ha : at_ ≤ s.size) (hs : s.size ≤ 1000000) (w : World) (h : RdR r s at_ v 0 w) (hm : lookJ 0 (s.data.toList.drop at_) = 101) (h1 : at_ + 1 < s.size) (hs1 : s[at_ + 1].toNat ≠ 43) (hs2 : s[at_ + 1].toNat ≠ 45) (hq : at_ + 1 < s.size) (hhi : 57 < s[at_ + 1].toNat) :
    Calls Tryz.prog 76 #[.pointer (some ⟨r, 0, none⟩), .bool true] w fun x w' => (x = .returned (.bool false) ∧ RdR r s at_ v 0 w') ∧ RK r w w' := by
  have HH := Lib.hid h
  have hlt := h.lt
  have HLA : Hid (∀ W, Below w.heap.size w W → Calls Tryz.prog 48 #[.pointer (some ⟨r, 0, none⟩)] W fun x w' => x = .returned (.int .u8 ((lookJ 0 (s.data.toList.drop at_)).toNat : Int)) ∧ Below W.heap.size W w') := Lib.hid fun W hW => rlook_any r s at_ v 0 ha hs W (HH.out.below hW)
  obtain ⟨c0, c1, c2, c3⟩ := h.cells
  rw [hm] at HLA
  rw [show ((((101 : UInt8)).toNat : Nat) : Int) = 101 from rfl] at HLA
  clear hm
  have hx1 : ((s[at_ + 1].toNat : Int) == 43) = false := beq_eq_false_iff_ne.2 (by omega)
  have hx2 : ((s[at_ + 1].toNat : Int) == 45) = false := beq_eq_false_iff_ne.2 (by omega)
  have hy1 : decide ((s[at_ + 1].toNat : Int) < 48) = false := decide_eq_false (by omega)
  have hy2 : decide ((57 : Int) < (s[at_ + 1].toNat : Int)) = true := decide_eq_true (by omega)
  clear h
  go_enter Tryz.func76, Tryz.ntmps76
  go_wp2_with fail
  refine (HLA.out _ (Below.refl _ _)).mono ?_; rintro x w1 ⟨rfl, hb⟩
  have HB1 := Lib.hid hb
  clear hb
  have HRN := Lib.hid (HH.out.below HB1.out)
  have HKN := Lib.hid (RK.of_below HB1.out hlt)
  obtain ⟨c0, c1, c2, c3⟩ := HRN.out.cells
  have f1 := HRN.out.frozen 1
  go_wp2_with fail
  go_ret
  exact ⟨⟨rfl, HRN.out⟩, HKN.out⟩
set_option maxRecDepth 100000 in
set_option maxHeartbeats 2000000 in
theorem rpower101_other_dig (r : Nat) (s : ByteArray) (at_ : Nat) (v : Value) (ha : at_ ≤ s.size) (hs : s.size ≤ 1000000) (w : World) (h : RdR r s at_ v 0 w) (hm : lookJ 0 (s.data.toList.drop at_) = 101) (h1 : at_ + 1 < s.size) (hs1 : s[at_ + 1].toNat ≠ 43) (hs2 : s[at_ + 1].toNat ≠ 45) (hq : at_ + 1 < s.size) (hlo : 48 ≤ s[at_ + 1].toNat) (hhi : s[at_ + 1].toNat ≤ 57) :
    Calls Tryz.prog 76 #[.pointer (some ⟨r, 0, none⟩), .bool true] w fun x w' => (x = .returned (.bool true) ∧ at_ + 1 + digK 0 (s.data.toList.drop (at_ + 1)) ≤ s.size ∧ RdR r s (at_ + 1 + digK 0 (s.data.toList.drop (at_ + 1))) v 0 w') ∧ RK r w w' := by
  have HH := Lib.hid h
  have hlt := h.lt
  have HLA : Hid (∀ W, Below w.heap.size w W → Calls Tryz.prog 48 #[.pointer (some ⟨r, 0, none⟩)] W fun x w' => x = .returned (.int .u8 ((lookJ 0 (s.data.toList.drop at_)).toNat : Int)) ∧ Below W.heap.size W w') := Lib.hid fun W hW => rlook_any r s at_ v 0 ha hs W (HH.out.below hW)
  obtain ⟨c0, c1, c2, c3⟩ := h.cells
  rw [hm] at HLA
  rw [show ((((101 : UInt8)).toNat : Nat) : Int) = 101 from rfl] at HLA
  clear hm
  have hx1 : ((s[at_ + 1].toNat : Int) == 43) = false := beq_eq_false_iff_ne.2 (by omega)
  have hx2 : ((s[at_ + 1].toNat : Int) == 45) = false := beq_eq_false_iff_ne.2 (by omega)
  have hy1 : decide ((s[at_ + 1].toNat : Int) < 48) = false := decide_eq_false (by omega)
  have hy2 : decide ((57 : Int) < (s[at_ + 1].toNat : Int)) = false := decide_eq_false (by omega)
  have HDS : Hid (∀ W, RdR r s (at_ + 1) v 0 W → Calls Tryz.prog 75 #[.pointer (some ⟨r, 0, none⟩)] W fun x w' => x = .returned (.tuple #[]) ∧ (at_ + 1 + digK 0 (s.data.toList.drop (at_ + 1)) ≤ s.size ∧ RdR r s (at_ + 1 + digK 0 (s.data.toList.drop (at_ + 1))) v 0 w') ∧ RK r W w') := Lib.hid fun W hW => by
    have := rdigits_any r s (at_ + 1) v 0 (by omega) hs W hW
    rw [if_neg (show ¬ ((0 : Int) = 0 ∧ digK 0 (s.data.toList.drop (at_ + 1)) = 0) from fun hh => by
      have h2 := (digK_go (e := 0) (s := s) (a := at_ + 1) (by unfold lookJ; rw [if_neg (by simp), drop_at s _ hq, List.headD_cons]; exact (isDig_iff _).2 ⟨hlo, hhi⟩)).2.2
      omega)] at this
    exact this
  clear h
  go_enter Tryz.func76, Tryz.ntmps76
  go_wp2_with fail
  refine (HLA.out _ (Below.refl _ _)).mono ?_; rintro x w1 ⟨rfl, hb⟩
  have HB1 := Lib.hid hb
  clear hb
  have HRN := Lib.hid (HH.out.below HB1.out)
  have HKN := Lib.hid (RK.of_below HB1.out hlt)
  obtain ⟨c0, c1, c2, c3⟩ := HRN.out.cells
  have f1 := HRN.out.frozen 1
  go_wp2_with fail
  have HRM : Hid (RdR r s (at_ + 1) v 0 (w1.setCell ⟨r, 1, none⟩ (.int .i64 ((at_ : Int) + 1)))) := Lib.hid (by
    have := HRN.out.at_ (at_ + 1)
    rw [show ((at_ + 1 : Nat) : Int) = (at_ : Int) + 1 from by omega] at this
    exact this)
  refine (HDS.out _ HRM.out).mono ?_; rintro x w9 ⟨rfl, ⟨hr1, hr2⟩, hk⟩
  have HE : Hid ((at_ + 1 + digK 0 (s.data.toList.drop (at_ + 1)) ≤ s.size ∧ RdR r s (at_ + 1 + digK 0 (s.data.toList.drop (at_ + 1))) v 0 w9) ∧ RK r w w9) := Lib.hid ⟨⟨hr1, hr2⟩, (HKN.out.trans (RK.set _ _ _ _)).trans hk⟩
  clear hr1 hr2 hk
  go_wp2_with fail
  go_ret
  exact ⟨⟨rfl, HE.out.1⟩, HE.out.2⟩
set_option maxRecDepth 100000 in
set_option maxHeartbeats 2000000 in
theorem rpower101_43_out (r : Nat) (s : ByteArray) (at_ : Nat) (v : Value) (ha : at_ ≤ s.size) (hs : s.size ≤ 1000000) (w : World) (h : RdR r s at_ v 0 w) (hm : lookJ 0 (s.data.toList.drop at_) = 101) (h1 : at_ + 1 < s.size) (hs1 : s[at_ + 1].toNat = 43) (hq : ¬ at_ + 2 < s.size) :
    Calls Tryz.prog 76 #[.pointer (some ⟨r, 0, none⟩), .bool true] w fun x w' => (x = .returned (.bool false) ∧ RdR r s at_ v 0 w') ∧ RK r w w' := by
  have HH := Lib.hid h
  have hlt := h.lt
  have HLA : Hid (∀ W, Below w.heap.size w W → Calls Tryz.prog 48 #[.pointer (some ⟨r, 0, none⟩)] W fun x w' => x = .returned (.int .u8 ((lookJ 0 (s.data.toList.drop at_)).toNat : Int)) ∧ Below W.heap.size W w') := Lib.hid fun W hW => rlook_any r s at_ v 0 ha hs W (HH.out.below hW)
  obtain ⟨c0, c1, c2, c3⟩ := h.cells
  rw [hm] at HLA
  rw [show ((((101 : UInt8)).toNat : Nat) : Int) = 101 from rfl] at HLA
  clear hm
  have hx1 : ((s[at_ + 1].toNat : Int) == 43) = true := by rw [hs1]; rfl
  have hx2 : ((s[at_ + 1].toNat : Int) == 45) = false := by rw [hs1]; rfl
  clear h
  go_enter Tryz.func76, Tryz.ntmps76
  go_wp2_with fail
  refine (HLA.out _ (Below.refl _ _)).mono ?_; rintro x w1 ⟨rfl, hb⟩
  have HB1 := Lib.hid hb
  clear hb
  have HRN := Lib.hid (HH.out.below HB1.out)
  have HKN := Lib.hid (RK.of_below HB1.out hlt)
  obtain ⟨c0, c1, c2, c3⟩ := HRN.out.cells
  have f1 := HRN.out.frozen 1
  go_wp2_with fail
  go_ret
  exact ⟨⟨rfl, HRN.out⟩, HKN.out⟩
set_option maxRecDepth 100000 in
set_option maxHeartbeats 2000000 in
theorem rpower101_43_low (r : Nat) (s : ByteArray) (at_ : Nat) (v : Value) (ha : at_ ≤ s.size) (hs : s.size ≤ 1000000) (w : World) (h : RdR r s at_ v 0 w) (hm : lookJ 0 (s.data.toList.drop at_) = 101) (h1 : at_ + 1 < s.size) (hs1 : s[at_ + 1].toNat = 43) (hq : at_ + 2 < s.size) (hlo : s[at_ + 2].toNat < 48) :
    Calls Tryz.prog 76 #[.pointer (some ⟨r, 0, none⟩), .bool true] w fun x w' => (x = .returned (.bool false) ∧ RdR r s at_ v 0 w') ∧ RK r w w' := by
  have HH := Lib.hid h
  have hlt := h.lt
  have HLA : Hid (∀ W, Below w.heap.size w W → Calls Tryz.prog 48 #[.pointer (some ⟨r, 0, none⟩)] W fun x w' => x = .returned (.int .u8 ((lookJ 0 (s.data.toList.drop at_)).toNat : Int)) ∧ Below W.heap.size W w') := Lib.hid fun W hW => rlook_any r s at_ v 0 ha hs W (HH.out.below hW)
  obtain ⟨c0, c1, c2, c3⟩ := h.cells
  rw [hm] at HLA
  rw [show ((((101 : UInt8)).toNat : Nat) : Int) = 101 from rfl] at HLA
  clear hm
  have hx1 : ((s[at_ + 1].toNat : Int) == 43) = true := by rw [hs1]; rfl
  have hx2 : ((s[at_ + 1].toNat : Int) == 45) = false := by rw [hs1]; rfl
  have hy1 : decide ((s[at_ + 2].toNat : Int) < 48) = true := decide_eq_true (by omega)
  clear h
  go_enter Tryz.func76, Tryz.ntmps76
  go_wp2_with fail
  refine (HLA.out _ (Below.refl _ _)).mono ?_; rintro x w1 ⟨rfl, hb⟩
  have HB1 := Lib.hid hb
  clear hb
  have HRN := Lib.hid (HH.out.below HB1.out)
  have HKN := Lib.hid (RK.of_below HB1.out hlt)
  obtain ⟨c0, c1, c2, c3⟩ := HRN.out.cells
  have f1 := HRN.out.frozen 1
  go_wp2_with fail
  go_ret
  exact ⟨⟨rfl, HRN.out⟩, HKN.out⟩
set_option maxRecDepth 100000 in
set_option maxHeartbeats 2000000 in
theorem rpower101_43_high (r : Nat) (s : ByteArray) (at_ : Nat) (v : Value) (ha : at_ ≤ s.size) (hs : s.size ≤ 1000000) (w : World) (h : RdR r s at_ v 0 w) (hm : lookJ 0 (s.data.toList.drop at_) = 101) (h1 : at_ + 1 < s.size) (hs1 : s[at_ + 1].toNat = 43) (hq : at_ + 2 < s.size) (hhi : 57 < s[at_ + 2].toNat) :
    Calls Tryz.prog 76 #[.pointer (some ⟨r, 0, none⟩), .bool true] w fun x w' => (x = .returned (.bool false) ∧ RdR r s at_ v 0 w') ∧ RK r w w' := by
  have HH := Lib.hid h
  have hlt := h.lt
  have HLA : Hid (∀ W, Below w.heap.size w W → Calls Tryz.prog 48 #[.pointer (some ⟨r, 0, none⟩)] W fun x w' => x = .returned (.int .u8 ((lookJ 0 (s.data.toList.drop at_)).toNat : Int)) ∧ Below W.heap.size W w') := Lib.hid fun W hW => rlook_any r s at_ v 0 ha hs W (HH.out.below hW)
  obtain ⟨c0, c1, c2, c3⟩ := h.cells
  rw [hm] at HLA
  rw [show ((((101 : UInt8)).toNat : Nat) : Int) = 101 from rfl] at HLA
  clear hm
  have hx1 : ((s[at_ + 1].toNat : Int) == 43) = true := by rw [hs1]; rfl
  have hx2 : ((s[at_ + 1].toNat : Int) == 45) = false := by rw [hs1]; rfl
  have hy1 : decide ((s[at_ + 2].toNat : Int) < 48) = false := decide_eq_false (by omega)
  have hy2 : decide ((57 : Int) < (s[at_ + 2].toNat : Int)) = true := decide_eq_true (by omega)
  clear h
  go_enter Tryz.func76, Tryz.ntmps76
  go_wp2_with fail
  refine (HLA.out _ (Below.refl _ _)).mono ?_; rintro x w1 ⟨rfl, hb⟩
  have HB1 := Lib.hid hb
  clear hb
  have HRN := Lib.hid (HH.out.below HB1.out)
  have HKN := Lib.hid (RK.of_below HB1.out hlt)
  obtain ⟨c0, c1, c2, c3⟩ := HRN.out.cells
  have f1 := HRN.out.frozen 1
  go_wp2_with fail
  go_ret
  exact ⟨⟨rfl, HRN.out⟩, HKN.out⟩
set_option maxRecDepth 100000 in
set_option maxHeartbeats 2000000 in
theorem rpower101_43_dig (r : Nat) (s : ByteArray) (at_ : Nat) (v : Value) (ha : at_ ≤ s.size) (hs : s.size ≤ 1000000) (w : World) (h : RdR r s at_ v 0 w) (hm : lookJ 0 (s.data.toList.drop at_) = 101) (h1 : at_ + 1 < s.size) (hs1 : s[at_ + 1].toNat = 43) (hq : at_ + 2 < s.size) (hlo : 48 ≤ s[at_ + 2].toNat) (hhi : s[at_ + 2].toNat ≤ 57) :
    Calls Tryz.prog 76 #[.pointer (some ⟨r, 0, none⟩), .bool true] w fun x w' => (x = .returned (.bool true) ∧ at_ + 2 + digK 0 (s.data.toList.drop (at_ + 2)) ≤ s.size ∧ RdR r s (at_ + 2 + digK 0 (s.data.toList.drop (at_ + 2))) v 0 w') ∧ RK r w w' := by
  have HH := Lib.hid h
  have hlt := h.lt
  have HLA : Hid (∀ W, Below w.heap.size w W → Calls Tryz.prog 48 #[.pointer (some ⟨r, 0, none⟩)] W fun x w' => x = .returned (.int .u8 ((lookJ 0 (s.data.toList.drop at_)).toNat : Int)) ∧ Below W.heap.size W w') := Lib.hid fun W hW => rlook_any r s at_ v 0 ha hs W (HH.out.below hW)
  obtain ⟨c0, c1, c2, c3⟩ := h.cells
  rw [hm] at HLA
  rw [show ((((101 : UInt8)).toNat : Nat) : Int) = 101 from rfl] at HLA
  clear hm
  have hx1 : ((s[at_ + 1].toNat : Int) == 43) = true := by rw [hs1]; rfl
  have hx2 : ((s[at_ + 1].toNat : Int) == 45) = false := by rw [hs1]; rfl
  have hy1 : decide ((s[at_ + 2].toNat : Int) < 48) = false := decide_eq_false (by omega)
  have hy2 : decide ((57 : Int) < (s[at_ + 2].toNat : Int)) = false := decide_eq_false (by omega)
  have HDS : Hid (∀ W, RdR r s (at_ + 2) v 0 W → Calls Tryz.prog 75 #[.pointer (some ⟨r, 0, none⟩)] W fun x w' => x = .returned (.tuple #[]) ∧ (at_ + 2 + digK 0 (s.data.toList.drop (at_ + 2)) ≤ s.size ∧ RdR r s (at_ + 2 + digK 0 (s.data.toList.drop (at_ + 2))) v 0 w') ∧ RK r W w') := Lib.hid fun W hW => by
    have := rdigits_any r s (at_ + 2) v 0 (by omega) hs W hW
    rw [if_neg (show ¬ ((0 : Int) = 0 ∧ digK 0 (s.data.toList.drop (at_ + 2)) = 0) from fun hh => by
      have h2 := (digK_go (e := 0) (s := s) (a := at_ + 2) (by unfold lookJ; rw [if_neg (by simp), drop_at s _ hq, List.headD_cons]; exact (isDig_iff _).2 ⟨hlo, hhi⟩)).2.2
      omega)] at this
    exact this
  clear h
  go_enter Tryz.func76, Tryz.ntmps76
  go_wp2_with fail
  refine (HLA.out _ (Below.refl _ _)).mono ?_; rintro x w1 ⟨rfl, hb⟩
  have HB1 := Lib.hid hb
  clear hb
  have HRN := Lib.hid (HH.out.below HB1.out)
  have HKN := Lib.hid (RK.of_below HB1.out hlt)
  obtain ⟨c0, c1, c2, c3⟩ := HRN.out.cells
  have f1 := HRN.out.frozen 1
  go_wp2_with fail
  have HRM : Hid (RdR r s (at_ + 2) v 0 (w1.setCell ⟨r, 1, none⟩ (.int .i64 ((at_ : Int) + 2)))) := Lib.hid (by
    have := HRN.out.at_ (at_ + 2)
    rw [show ((at_ + 2 : Nat) : Int) = (at_ : Int) + 2 from by omega] at this
    exact this)
  refine (HDS.out _ HRM.out).mono ?_; rintro x w9 ⟨rfl, ⟨hr1, hr2⟩, hk⟩
  have HE : Hid ((at_ + 2 + digK 0 (s.data.toList.drop (at_ + 2)) ≤ s.size ∧ RdR r s (at_ + 2 + digK 0 (s.data.toList.drop (at_ + 2))) v 0 w9) ∧ RK r w w9) := Lib.hid ⟨⟨hr1, hr2⟩, (HKN.out.trans (RK.set _ _ _ _)).trans hk⟩
  clear hr1 hr2 hk
  go_wp2_with fail
  go_ret
  exact ⟨⟨rfl, HE.out.1⟩, HE.out.2⟩
set_option maxRecDepth 100000 in
set_option maxHeartbeats 2000000 in
theorem rpower101_45_out (r : Nat) (s : ByteArray) (at_ : Nat) (v : Value) (ha : at_ ≤ s.size) (hs : s.size ≤ 1000000) (w : World) (h : RdR r s at_ v 0 w) (hm : lookJ 0 (s.data.toList.drop at_) = 101) (h1 : at_ + 1 < s.size) (hs1 : s[at_ + 1].toNat = 45) (hq : ¬ at_ + 2 < s.size) :
    Calls Tryz.prog 76 #[.pointer (some ⟨r, 0, none⟩), .bool true] w fun x w' => (x = .returned (.bool false) ∧ RdR r s at_ v 0 w') ∧ RK r w w' := by
  have HH := Lib.hid h
  have hlt := h.lt
  have HLA : Hid (∀ W, Below w.heap.size w W → Calls Tryz.prog 48 #[.pointer (some ⟨r, 0, none⟩)] W fun x w' => x = .returned (.int .u8 ((lookJ 0 (s.data.toList.drop at_)).toNat : Int)) ∧ Below W.heap.size W w') := Lib.hid fun W hW => rlook_any r s at_ v 0 ha hs W (HH.out.below hW)
  obtain ⟨c0, c1, c2, c3⟩ := h.cells
  rw [hm] at HLA
  rw [show ((((101 : UInt8)).toNat : Nat) : Int) = 101 from rfl] at HLA
  clear hm
  have hx1 : ((s[at_ + 1].toNat : Int) == 43) = false := by rw [hs1]; rfl
  have hx2 : ((s[at_ + 1].toNat : Int) == 45) = true := by rw [hs1]; rfl
  clear h
  go_enter Tryz.func76, Tryz.ntmps76
  go_wp2_with fail
  refine (HLA.out _ (Below.refl _ _)).mono ?_; rintro x w1 ⟨rfl, hb⟩
  have HB1 := Lib.hid hb
  clear hb
  have HRN := Lib.hid (HH.out.below HB1.out)
  have HKN := Lib.hid (RK.of_below HB1.out hlt)
  obtain ⟨c0, c1, c2, c3⟩ := HRN.out.cells
  have f1 := HRN.out.frozen 1
  go_wp2_with fail
  go_ret
  exact ⟨⟨rfl, HRN.out⟩, HKN.out⟩
set_option maxRecDepth 100000 in
set_option maxHeartbeats 2000000 in
theorem rpower101_45_low (r : Nat) (s : ByteArray) (at_ : Nat) (v : Value) (ha : at_ ≤ s.size) (hs : s.size ≤ 1000000) (w : World) (h : RdR r s at_ v 0 w) (hm : lookJ 0 (s.data.toList.drop at_) = 101) (h1 : at_ + 1 < s.size) (hs1 : s[at_ + 1].toNat = 45) (hq : at_ + 2 < s.size) (hlo : s[at_ + 2].toNat < 48) :
    Calls Tryz.prog 76 #[.pointer (some ⟨r, 0, none⟩), .bool true] w fun x w' => (x = .returned (.bool false) ∧ RdR r s at_ v 0 w') ∧ RK r w w' := by
  have HH := Lib.hid h
  have hlt := h.lt
  have HLA : Hid (∀ W, Below w.heap.size w W → Calls Tryz.prog 48 #[.pointer (some ⟨r, 0, none⟩)] W fun x w' => x = .returned (.int .u8 ((lookJ 0 (s.data.toList.drop at_)).toNat : Int)) ∧ Below W.heap.size W w') := Lib.hid fun W hW => rlook_any r s at_ v 0 ha hs W (HH.out.below hW)
  obtain ⟨c0, c1, c2, c3⟩ := h.cells
  rw [hm] at HLA
  rw [show ((((101 : UInt8)).toNat : Nat) : Int) = 101 from rfl] at HLA
  clear hm
  have hx1 : ((s[at_ + 1].toNat : Int) == 43) = false := by rw [hs1]; rfl
  have hx2 : ((s[at_ + 1].toNat : Int) == 45) = true := by rw [hs1]; rfl
  have hy1 : decide ((s[at_ + 2].toNat : Int) < 48) = true := decide_eq_true (by omega)
  clear h
  go_enter Tryz.func76, Tryz.ntmps76
  go_wp2_with fail
  refine (HLA.out _ (Below.refl _ _)).mono ?_; rintro x w1 ⟨rfl, hb⟩
  have HB1 := Lib.hid hb
  clear hb
  have HRN := Lib.hid (HH.out.below HB1.out)
  have HKN := Lib.hid (RK.of_below HB1.out hlt)
  obtain ⟨c0, c1, c2, c3⟩ := HRN.out.cells
  have f1 := HRN.out.frozen 1
  go_wp2_with fail
  go_ret
  exact ⟨⟨rfl, HRN.out⟩, HKN.out⟩
set_option maxRecDepth 100000 in
set_option maxHeartbeats 2000000 in
theorem rpower101_45_high (r : Nat) (s : ByteArray) (at_ : Nat) (v : Value) (ha : at_ ≤ s.size) (hs : s.size ≤ 1000000) (w : World) (h : RdR r s at_ v 0 w) (hm : lookJ 0 (s.data.toList.drop at_) = 101) (h1 : at_ + 1 < s.size) (hs1 : s[at_ + 1].toNat = 45) (hq : at_ + 2 < s.size) (hhi : 57 < s[at_ + 2].toNat) :
    Calls Tryz.prog 76 #[.pointer (some ⟨r, 0, none⟩), .bool true] w fun x w' => (x = .returned (.bool false) ∧ RdR r s at_ v 0 w') ∧ RK r w w' := by
  have HH := Lib.hid h
  have hlt := h.lt
  have HLA : Hid (∀ W, Below w.heap.size w W → Calls Tryz.prog 48 #[.pointer (some ⟨r, 0, none⟩)] W fun x w' => x = .returned (.int .u8 ((lookJ 0 (s.data.toList.drop at_)).toNat : Int)) ∧ Below W.heap.size W w') := Lib.hid fun W hW => rlook_any r s at_ v 0 ha hs W (HH.out.below hW)
  obtain ⟨c0, c1, c2, c3⟩ := h.cells
  rw [hm] at HLA
  rw [show ((((101 : UInt8)).toNat : Nat) : Int) = 101 from rfl] at HLA
  clear hm
  have hx1 : ((s[at_ + 1].toNat : Int) == 43) = false := by rw [hs1]; rfl
  have hx2 : ((s[at_ + 1].toNat : Int) == 45) = true := by rw [hs1]; rfl
  have hy1 : decide ((s[at_ + 2].toNat : Int) < 48) = false := decide_eq_false (by omega)
  have hy2 : decide ((57 : Int) < (s[at_ + 2].toNat : Int)) = true := decide_eq_true (by omega)
  clear h
  go_enter Tryz.func76, Tryz.ntmps76
  go_wp2_with fail
  refine (HLA.out _ (Below.refl _ _)).mono ?_; rintro x w1 ⟨rfl, hb⟩
  have HB1 := Lib.hid hb
  clear hb
  have HRN := Lib.hid (HH.out.below HB1.out)
  have HKN := Lib.hid (RK.of_below HB1.out hlt)
  obtain ⟨c0, c1, c2, c3⟩ := HRN.out.cells
  have f1 := HRN.out.frozen 1
  go_wp2_with fail
  go_ret
  exact ⟨⟨rfl, HRN.out⟩, HKN.out⟩
set_option maxRecDepth 100000 in
set_option maxHeartbeats 2000000 in
theorem rpower101_45_dig (r : Nat) (s : ByteArray) (at_ : Nat) (v : Value) (ha : at_ ≤ s.size) (hs : s.size ≤ 1000000) (w : World) (h : RdR r s at_ v 0 w) (hm : lookJ 0 (s.data.toList.drop at_) = 101) (h1 : at_ + 1 < s.size) (hs1 : s[at_ + 1].toNat = 45) (hq : at_ + 2 < s.size) (hlo : 48 ≤ s[at_ + 2].toNat) (hhi : s[at_ + 2].toNat ≤ 57) :
    Calls Tryz.prog 76 #[.pointer (some ⟨r, 0, none⟩), .bool true] w fun x w' => (x = .returned (.bool true) ∧ at_ + 2 + digK 0 (s.data.toList.drop (at_ + 2)) ≤ s.size ∧ RdR r s (at_ + 2 + digK 0 (s.data.toList.drop (at_ + 2))) v 0 w') ∧ RK r w w' := by
  have HH := Lib.hid h
  have hlt := h.lt
  have HLA : Hid (∀ W, Below w.heap.size w W → Calls Tryz.prog 48 #[.pointer (some ⟨r, 0, none⟩)] W fun x w' => x = .returned (.int .u8 ((lookJ 0 (s.data.toList.drop at_)).toNat : Int)) ∧ Below W.heap.size W w') := Lib.hid fun W hW => rlook_any r s at_ v 0 ha hs W (HH.out.below hW)
  obtain ⟨c0, c1, c2, c3⟩ := h.cells
  rw [hm] at HLA
  rw [show ((((101 : UInt8)).toNat : Nat) : Int) = 101 from rfl] at HLA
  clear hm
  have hx1 : ((s[at_ + 1].toNat : Int) == 43) = false := by rw [hs1]; rfl
  have hx2 : ((s[at_ + 1].toNat : Int) == 45) = true := by rw [hs1]; rfl
  have hy1 : decide ((s[at_ + 2].toNat : Int) < 48) = false := decide_eq_false (by omega)
  have hy2 : decide ((57 : Int) < (s[at_ + 2].toNat : Int)) = false := decide_eq_false (by omega)
  have HDS : Hid (∀ W, RdR r s (at_ + 2) v 0 W → Calls Tryz.prog 75 #[.pointer (some ⟨r, 0, none⟩)] W fun x w' => x = .returned (.tuple #[]) ∧ (at_ + 2 + digK 0 (s.data.toList.drop (at_ + 2)) ≤ s.size ∧ RdR r s (at_ + 2 + digK 0 (s.data.toList.drop (at_ + 2))) v 0 w') ∧ RK r W w') := Lib.hid fun W hW => by
    have := rdigits_any r s (at_ + 2) v 0 (by omega) hs W hW
    rw [if_neg (show ¬ ((0 : Int) = 0 ∧ digK 0 (s.data.toList.drop (at_ + 2)) = 0) from fun hh => by
      have h2 := (digK_go (e := 0) (s := s) (a := at_ + 2) (by unfold lookJ; rw [if_neg (by simp), drop_at s _ hq, List.headD_cons]; exact (isDig_iff _).2 ⟨hlo, hhi⟩)).2.2
      omega)] at this
    exact this
  clear h
  go_enter Tryz.func76, Tryz.ntmps76
  go_wp2_with fail
  refine (HLA.out _ (Below.refl _ _)).mono ?_; rintro x w1 ⟨rfl, hb⟩
  have HB1 := Lib.hid hb
  clear hb
  have HRN := Lib.hid (HH.out.below HB1.out)
  have HKN := Lib.hid (RK.of_below HB1.out hlt)
  obtain ⟨c0, c1, c2, c3⟩ := HRN.out.cells
  have f1 := HRN.out.frozen 1
  go_wp2_with fail
  have HRM : Hid (RdR r s (at_ + 2) v 0 (w1.setCell ⟨r, 1, none⟩ (.int .i64 ((at_ : Int) + 2)))) := Lib.hid (by
    have := HRN.out.at_ (at_ + 2)
    rw [show ((at_ + 2 : Nat) : Int) = (at_ : Int) + 2 from by omega] at this
    exact this)
  refine (HDS.out _ HRM.out).mono ?_; rintro x w9 ⟨rfl, ⟨hr1, hr2⟩, hk⟩
  have HE : Hid ((at_ + 2 + digK 0 (s.data.toList.drop (at_ + 2)) ≤ s.size ∧ RdR r s (at_ + 2 + digK 0 (s.data.toList.drop (at_ + 2))) v 0 w9) ∧ RK r w w9) := Lib.hid ⟨⟨hr1, hr2⟩, (HKN.out.trans (RK.set _ _ _ _)).trans hk⟩
  clear hr1 hr2 hk
  go_wp2_with fail
  go_ret
  exact ⟨⟨rfl, HE.out.1⟩, HE.out.2⟩
set_option maxRecDepth 100000 in
set_option maxHeartbeats 2000000 in
theorem rpower69_none_out (r : Nat) (s : ByteArray) (at_ : Nat) (v : Value) (ha : at_ ≤ s.size) (hs : s.size ≤ 1000000) (w : World) (h : RdR r s at_ v 0 w) (hm : lookJ 0 (s.data.toList.drop at_) = 69) (h1 : ¬ at_ + 1 < s.size) (hq : ¬ at_ + 1 < s.size) :
    Calls Tryz.prog 76 #[.pointer (some ⟨r, 0, none⟩), .bool true] w fun x w' => (x = .returned (.bool false) ∧ RdR r s at_ v 0 w') ∧ RK r w w' := by
  have HH := Lib.hid h
  have hlt := h.lt
  have HLA : Hid (∀ W, Below w.heap.size w W → Calls Tryz.prog 48 #[.pointer (some ⟨r, 0, none⟩)] W fun x w' => x = .returned (.int .u8 ((lookJ 0 (s.data.toList.drop at_)).toNat : Int)) ∧ Below W.heap.size W w') := Lib.hid fun W hW => rlook_any r s at_ v 0 ha hs W (HH.out.below hW)
  obtain ⟨c0, c1, c2, c3⟩ := h.cells
  rw [hm] at HLA
  rw [show ((((69 : UInt8)).toNat : Nat) : Int) = 69 from rfl] at HLA
  clear hm
  clear h
  go_enter Tryz.func76, Tryz.ntmps76
  go_wp2_with fail
  refine (HLA.out _ (Below.refl _ _)).mono ?_; rintro x w1 ⟨rfl, hb⟩
  have HB1 := Lib.hid hb
  clear hb
  go_wp2_with fail
  refine (HLA.out _ HB1.out).mono ?_; rintro x w2 ⟨rfl, hb⟩
  have HB2 : Hid (Below w.heap.size w w2) := Lib.hid (HB1.out.trans (hb.mono HB1.out.size))
  clear hb
  have HRN := Lib.hid (HH.out.below HB2.out)
  have HKN := Lib.hid (RK.of_below HB2.out hlt)
  obtain ⟨c0, c1, c2, c3⟩ := HRN.out.cells
  have f1 := HRN.out.frozen 1
  go_wp2_with fail
  go_ret
  exact ⟨⟨rfl, HRN.out⟩, HKN.out⟩
set_option maxRecDepth 100000 in
set_option maxHeartbeats 2000000 in
theorem rpower69_other_low (r : Nat) (s : ByteArray) (at_ : Nat) (v : Value) (ha : at_ ≤ s.size) (hs : s.size ≤ 1000000) (w : World) (h : RdR r s at_ v 0 w) (hm : lookJ 0 (s.data.toList.drop at_) = 69) (h1 : at_ + 1 < s.size) (hs1 : s[at_ + 1].toNat ≠ 43) (hs2 : s[at_ + 1].toNat ≠ 45) (hq : at_ + 1 < s.size) (hlo : s[at_ + 1].toNat < 48) :
    Calls Tryz.prog 76 #[.pointer (some ⟨r, 0, none⟩), .bool true] w fun x w' => (x = .returned (.bool false) ∧ RdR r s at_ v 0 w') ∧ RK r w w' := by
  have HH := Lib.hid h
  have hlt := h.lt
  have HLA : Hid (∀ W, Below w.heap.size w W → Calls Tryz.prog 48 #[.pointer (some ⟨r, 0, none⟩)] W fun x w' => x = .returned (.int .u8 ((lookJ 0 (s.data.toList.drop at_)).toNat : Int)) ∧ Below W.heap.size W w') := Lib.hid fun W hW => rlook_any r s at_ v 0 ha hs W (HH.out.below hW)
  obtain ⟨c0, c1, c2, c3⟩ := h.cells
  rw [hm] at HLA
  rw [show ((((69 : UInt8)).toNat : Nat) : Int) = 69 from rfl] at HLA
  clear hm
  have hx1 : ((s[at_ + 1].toNat : Int) == 43) = false := beq_eq_false_iff_ne.2 (by omega)
  have hx2 : ((s[at_ + 1].toNat : Int) == 45) = false := beq_eq_false_iff_ne.2 (by omega)
  have hy1 : decide ((s[at_ + 1].toNat : Int) < 48) = true := decide_eq_true (by omega)
  clear h
  go_enter Tryz.func76, Tryz.ntmps76
  go_wp2_with fail
  refine (HLA.out _ (Below.refl _ _)).mono ?_; rintro x w1 ⟨rfl, hb⟩
  have HB1 := Lib.hid hb
  clear hb
  go_wp2_with fail
  refine (HLA.out _ HB1.out).mono ?_; rintro x w2 ⟨rfl, hb⟩
  have HB2 : Hid (Below w.heap.size w w2) := Lib.hid (HB1.out.trans (hb.mono HB1.out.size))
  clear hb
  have HRN := Lib.hid (HH.out.below HB2.out)
  have HKN := Lib.hid (RK.of_below HB2.out hlt)
  obtain ⟨c0, c1, c2, c3⟩ := HRN.out.cells
  have f1 := HRN.out.frozen 1
  go_wp2_with fail
  go_ret
  exact ⟨⟨rfl, HRN.out⟩, HKN.out⟩
set_option maxRecDepth 100000 in
set_option maxHeartbeats 2000000 in
theorem rpower69_other_high (r : Nat) (s : ByteArray) (at_ : Nat) (v : Value) (ha : at_ ≤ s.size) (hs : s.size ≤ 1000000) (w : World) (h : RdR r s at_ v 0 w) (hm : lookJ 0 (s.data.toList.drop at_) = 69) (h1 : at_ + 1 < s.size) (hs1 : s[at_ + 1].toNat ≠ 43) (hs2 : s[at_ + 1].toNat ≠ 45) (hq : at_ + 1 < s.size) (hhi : 57 < s[at_ + 1].toNat) :
    Calls Tryz.prog 76 #[.pointer (some ⟨r, 0, none⟩), .bool true] w fun x w' => (x = .returned (.bool false) ∧ RdR r s at_ v 0 w') ∧ RK r w w' := by
  have HH := Lib.hid h
  have hlt := h.lt
  have HLA : Hid (∀ W, Below w.heap.size w W → Calls Tryz.prog 48 #[.pointer (some ⟨r, 0, none⟩)] W fun x w' => x = .returned (.int .u8 ((lookJ 0 (s.data.toList.drop at_)).toNat : Int)) ∧ Below W.heap.size W w') := Lib.hid fun W hW => rlook_any r s at_ v 0 ha hs W (HH.out.below hW)
  obtain ⟨c0, c1, c2, c3⟩ := h.cells
  rw [hm] at HLA
  rw [show ((((69 : UInt8)).toNat : Nat) : Int) = 69 from rfl] at HLA
  clear hm
  have hx1 : ((s[at_ + 1].toNat : Int) == 43) = false := beq_eq_false_iff_ne.2 (by omega)
  have hx2 : ((s[at_ + 1].toNat : Int) == 45) = false := beq_eq_false_iff_ne.2 (by omega)
  have hy1 : decide ((s[at_ + 1].toNat : Int) < 48) = false := decide_eq_false (by omega)
  have hy2 : decide ((57 : Int) < (s[at_ + 1].toNat : Int)) = true := decide_eq_true (by omega)
  clear h
  go_enter Tryz.func76, Tryz.ntmps76
  go_wp2_with fail
  refine (HLA.out _ (Below.refl _ _)).mono ?_; rintro x w1 ⟨rfl, hb⟩
  have HB1 := Lib.hid hb
  clear hb
  go_wp2_with fail
  refine (HLA.out _ HB1.out).mono ?_; rintro x w2 ⟨rfl, hb⟩
  have HB2 : Hid (Below w.heap.size w w2) := Lib.hid (HB1.out.trans (hb.mono HB1.out.size))
  clear hb
  have HRN := Lib.hid (HH.out.below HB2.out)
  have HKN := Lib.hid (RK.of_below HB2.out hlt)
  obtain ⟨c0, c1, c2, c3⟩ := HRN.out.cells
  have f1 := HRN.out.frozen 1
  go_wp2_with fail
  go_ret
  exact ⟨⟨rfl, HRN.out⟩, HKN.out⟩
set_option maxRecDepth 100000 in
set_option maxHeartbeats 2000000 in
theorem rpower69_other_dig (r : Nat) (s : ByteArray) (at_ : Nat) (v : Value) (ha : at_ ≤ s.size) (hs : s.size ≤ 1000000) (w : World) (h : RdR r s at_ v 0 w) (hm : lookJ 0 (s.data.toList.drop at_) = 69) (h1 : at_ + 1 < s.size) (hs1 : s[at_ + 1].toNat ≠ 43) (hs2 : s[at_ + 1].toNat ≠ 45) (hq : at_ + 1 < s.size) (hlo : 48 ≤ s[at_ + 1].toNat) (hhi : s[at_ + 1].toNat ≤ 57) :
    Calls Tryz.prog 76 #[.pointer (some ⟨r, 0, none⟩), .bool true] w fun x w' => (x = .returned (.bool true) ∧ at_ + 1 + digK 0 (s.data.toList.drop (at_ + 1)) ≤ s.size ∧ RdR r s (at_ + 1 + digK 0 (s.data.toList.drop (at_ + 1))) v 0 w') ∧ RK r w w' := by
  have HH := Lib.hid h
  have hlt := h.lt
  have HLA : Hid (∀ W, Below w.heap.size w W → Calls Tryz.prog 48 #[.pointer (some ⟨r, 0, none⟩)] W fun x w' => x = .returned (.int .u8 ((lookJ 0 (s.data.toList.drop at_)).toNat : Int)) ∧ Below W.heap.size W w') := Lib.hid fun W hW => rlook_any r s at_ v 0 ha hs W (HH.out.below hW)
  obtain ⟨c0, c1, c2, c3⟩ := h.cells
  rw [hm] at HLA
  rw [show ((((69 : UInt8)).toNat : Nat) : Int) = 69 from rfl] at HLA
  clear hm
  have hx1 : ((s[at_ + 1].toNat : Int) == 43) = false := beq_eq_false_iff_ne.2 (by omega)
  have hx2 : ((s[at_ + 1].toNat : Int) == 45) = false := beq_eq_false_iff_ne.2 (by omega)
  have hy1 : decide ((s[at_ + 1].toNat : Int) < 48) = false := decide_eq_false (by omega)
  have hy2 : decide ((57 : Int) < (s[at_ + 1].toNat : Int)) = false := decide_eq_false (by omega)
  have HDS : Hid (∀ W, RdR r s (at_ + 1) v 0 W → Calls Tryz.prog 75 #[.pointer (some ⟨r, 0, none⟩)] W fun x w' => x = .returned (.tuple #[]) ∧ (at_ + 1 + digK 0 (s.data.toList.drop (at_ + 1)) ≤ s.size ∧ RdR r s (at_ + 1 + digK 0 (s.data.toList.drop (at_ + 1))) v 0 w') ∧ RK r W w') := Lib.hid fun W hW => by
    have := rdigits_any r s (at_ + 1) v 0 (by omega) hs W hW
    rw [if_neg (show ¬ ((0 : Int) = 0 ∧ digK 0 (s.data.toList.drop (at_ + 1)) = 0) from fun hh => by
      have h2 := (digK_go (e := 0) (s := s) (a := at_ + 1) (by unfold lookJ; rw [if_neg (by simp), drop_at s _ hq, List.headD_cons]; exact (isDig_iff _).2 ⟨hlo, hhi⟩)).2.2
      omega)] at this
    exact this
  clear h
  go_enter Tryz.func76, Tryz.ntmps76
  go_wp2_with fail
  refine (HLA.out _ (Below.refl _ _)).mono ?_; rintro x w1 ⟨rfl, hb⟩
  have HB1 := Lib.hid hb
  clear hb
  go_wp2_with fail
  refine (HLA.out _ HB1.out).mono ?_; rintro x w2 ⟨rfl, hb⟩
  have HB2 : Hid (Below w.heap.size w w2) := Lib.hid (HB1.out.trans (hb.mono HB1.out.size))
  clear hb
  have HRN := Lib.hid (HH.out.below HB2.out)
  have HKN := Lib.hid (RK.of_below HB2.out hlt)
  obtain ⟨c0, c1, c2, c3⟩ := HRN.out.cells
  have f1 := HRN.out.frozen 1
  go_wp2_with fail
  have HRM : Hid (RdR r s (at_ + 1) v 0 (w2.setCell ⟨r, 1, none⟩ (.int .i64 ((at_ : Int) + 1)))) := Lib.hid (by
    have := HRN.out.at_ (at_ + 1)
    rw [show ((at_ + 1 : Nat) : Int) = (at_ : Int) + 1 from by omega] at this
    exact this)
  refine (HDS.out _ HRM.out).mono ?_; rintro x w9 ⟨rfl, ⟨hr1, hr2⟩, hk⟩
  have HE : Hid ((at_ + 1 + digK 0 (s.data.toList.drop (at_ + 1)) ≤ s.size ∧ RdR r s (at_ + 1 + digK 0 (s.data.toList.drop (at_ + 1))) v 0 w9) ∧ RK r w w9) := Lib.hid ⟨⟨hr1, hr2⟩, (HKN.out.trans (RK.set _ _ _ _)).trans hk⟩
  clear hr1 hr2 hk
  go_wp2_with fail
  go_ret
  exact ⟨⟨rfl, HE.out.1⟩, HE.out.2⟩
set_option maxRecDepth 100000 in
set_option maxHeartbeats 2000000 in
theorem rpower69_43_out (r : Nat) (s : ByteArray) (at_ : Nat) (v : Value) (ha : at_ ≤ s.size) (hs : s.size ≤ 1000000) (w : World) (h : RdR r s at_ v 0 w) (hm : lookJ 0 (s.data.toList.drop at_) = 69) (h1 : at_ + 1 < s.size) (hs1 : s[at_ + 1].toNat = 43) (hq : ¬ at_ + 2 < s.size) :
    Calls Tryz.prog 76 #[.pointer (some ⟨r, 0, none⟩), .bool true] w fun x w' => (x = .returned (.bool false) ∧ RdR r s at_ v 0 w') ∧ RK r w w' := by
  have HH := Lib.hid h
  have hlt := h.lt
  have HLA : Hid (∀ W, Below w.heap.size w W → Calls Tryz.prog 48 #[.pointer (some ⟨r, 0, none⟩)] W fun x w' => x = .returned (.int .u8 ((lookJ 0 (s.data.toList.drop at_)).toNat : Int)) ∧ Below W.heap.size W w') := Lib.hid fun W hW => rlook_any r s at_ v 0 ha hs W (HH.out.below hW)
  obtain ⟨c0, c1, c2, c3⟩ := h.cells
  rw [hm] at HLA
  rw [show ((((69 : UInt8)).toNat : Nat) : Int) = 69 from rfl] at HLA
  clear hm
  have hx1 : ((s[at_ + 1].toNat : Int) == 43) = true := by rw [hs1]; rfl
  have hx2 : ((s[at_ + 1].toNat : Int) == 45) = false := by rw [hs1]; rfl
  clear h
  go_enter Tryz.func76, Tryz.ntmps76
  go_wp2_with fail
  refine (HLA.out _ (Below.refl _ _)).mono ?_; rintro x w1 ⟨rfl, hb⟩
  have HB1 := Lib.hid hb
  clear hb
  go_wp2_with fail
  refine (HLA.out _ HB1.out).mono ?_; rintro x w2 ⟨rfl, hb⟩
  have HB2 : Hid (Below w.heap.size w w2) := Lib.hid (HB1.out.trans (hb.mono HB1.out.size))
  clear hb
  have HRN := Lib.hid (HH.out.below HB2.out)
  have HKN := Lib.hid (RK.of_below HB2.out hlt)
  obtain ⟨c0, c1, c2, c3⟩ := HRN.out.cells
  have f1 := HRN.out.frozen 1
  go_wp2_with fail
  go_ret
  exact ⟨⟨rfl, HRN.out⟩, HKN.out⟩
set_option maxRecDepth 100000 in
set_option maxHeartbeats 2000000 in
theorem rpower69_43_low (r : Nat) (s : ByteArray) (at_ : Nat) (v : Value) (ha : at_ ≤ s.size) (hs : s.size ≤ 1000000) (w : World) (h : RdR r s at_ v 0 w) (hm : lookJ 0 (s.data.toList.drop at_) = 69) (h1 : at_ + 1 < s.size) (hs1 : s[at_ + 1].toNat = 43) (hq : at_ + 2 < s.size) (hlo : s[at_ + 2].toNat < 48) :
    Calls Tryz.prog 76 #[.pointer (some ⟨r, 0, none⟩), .bool true] w fun x w' => (x = .returned (.bool false) ∧ RdR r s at_ v 0 w') ∧ RK r w w' := by
  have HH := Lib.hid h
  have hlt := h.lt
  have HLA : Hid (∀ W, Below w.heap.size w W → Calls Tryz.prog 48 #[.pointer (some ⟨r, 0, none⟩)] W fun x w' => x = .returned (.int .u8 ((lookJ 0 (s.data.toList.drop at_)).toNat : Int)) ∧ Below W.heap.size W w') := Lib.hid fun W hW => rlook_any r s at_ v 0 ha hs W (HH.out.below hW)
  obtain ⟨c0, c1, c2, c3⟩ := h.cells
  rw [hm] at HLA
  rw [show ((((69 : UInt8)).toNat : Nat) : Int) = 69 from rfl] at HLA
  clear hm
  have hx1 : ((s[at_ + 1].toNat : Int) == 43) = true := by rw [hs1]; rfl
  have hx2 : ((s[at_ + 1].toNat : Int) == 45) = false := by rw [hs1]; rfl
  have hy1 : decide ((s[at_ + 2].toNat : Int) < 48) = true := decide_eq_true (by omega)
  clear h
  go_enter Tryz.func76, Tryz.ntmps76
  go_wp2_with fail
  refine (HLA.out _ (Below.refl _ _)).mono ?_; rintro x w1 ⟨rfl, hb⟩
  have HB1 := Lib.hid hb
  clear hb
  go_wp2_with fail
  refine (HLA.out _ HB1.out).mono ?_; rintro x w2 ⟨rfl, hb⟩
  have HB2 : Hid (Below w.heap.size w w2) := Lib.hid (HB1.out.trans (hb.mono HB1.out.size))
  clear hb
  have HRN := Lib.hid (HH.out.below HB2.out)
  have HKN := Lib.hid (RK.of_below HB2.out hlt)
  obtain ⟨c0, c1, c2, c3⟩ := HRN.out.cells
  have f1 := HRN.out.frozen 1
  go_wp2_with fail
  go_ret
  exact ⟨⟨rfl, HRN.out⟩, HKN.out⟩
set_option maxRecDepth 100000 in
set_option maxHeartbeats 2000000 in
theorem rpower69_43_high (r : Nat) (s : ByteArray) (at_ : Nat) (v : Value) (ha : at_ ≤ s.size) (hs : s.size ≤ 1000000) (w : World) (h : RdR r s at_ v 0 w) (hm : lookJ 0 (s.data.toList.drop at_) = 69) (h1 : at_ + 1 < s.size) (hs1 : s[at_ + 1].toNat = 43) (hq : at_ + 2 < s.size) (hhi : 57 < s[at_ + 2].toNat) :
    Calls Tryz.prog 76 #[.pointer (some ⟨r, 0, none⟩), .bool true] w fun x w' => (x = .returned (.bool false) ∧ RdR r s at_ v 0 w') ∧ RK r w w' := by
  have HH := Lib.hid h
  have hlt := h.lt
  have HLA : Hid (∀ W, Below w.heap.size w W → Calls Tryz.prog 48 #[.pointer (some ⟨r, 0, none⟩)] W fun x w' => x = .returned (.int .u8 ((lookJ 0 (s.data.toList.drop at_)).toNat : Int)) ∧ Below W.heap.size W w') := Lib.hid fun W hW => rlook_any r s at_ v 0 ha hs W (HH.out.below hW)
  obtain ⟨c0, c1, c2, c3⟩ := h.cells
  rw [hm] at HLA
  rw [show ((((69 : UInt8)).toNat : Nat) : Int) = 69 from rfl] at HLA
  clear hm
  have hx1 : ((s[at_ + 1].toNat : Int) == 43) = true := by rw [hs1]; rfl
  have hx2 : ((s[at_ + 1].toNat : Int) == 45) = false := by rw [hs1]; rfl
  have hy1 : decide ((s[at_ + 2].toNat : Int) < 48) = false := decide_eq_false (by omega)
  have hy2 : decide ((57 : Int) < (s[at_ + 2].toNat : Int)) = true := decide_eq_true (by omega)
  clear h
  go_enter Tryz.func76, Tryz.ntmps76
  go_wp2_with fail
  refine (HLA.out _ (Below.refl _ _)).mono ?_; rintro x w1 ⟨rfl, hb⟩
  have HB1 := Lib.hid hb
  clear hb
  go_wp2_with fail
  refine (HLA.out _ HB1.out).mono ?_; rintro x w2 ⟨rfl, hb⟩
  have HB2 : Hid (Below w.heap.size w w2) := Lib.hid (HB1.out.trans (hb.mono HB1.out.size))
  clear hb
  have HRN := Lib.hid (HH.out.below HB2.out)
  have HKN := Lib.hid (RK.of_below HB2.out hlt)
  obtain ⟨c0, c1, c2, c3⟩ := HRN.out.cells
  have f1 := HRN.out.frozen 1
  go_wp2_with fail
  go_ret
  exact ⟨⟨rfl, HRN.out⟩, HKN.out⟩
set_option maxRecDepth 100000 in
set_option maxHeartbeats 2000000 in
theorem rpower69_43_dig (r : Nat) (s : ByteArray) (at_ : Nat) (v : Value) (ha : at_ ≤ s.size) (hs : s.size ≤ 1000000) (w : World) (h : RdR r s at_ v 0 w) (hm : lookJ 0 (s.data.toList.drop at_) = 69) (h1 : at_ + 1 < s.size) (hs1 : s[at_ + 1].toNat = 43) (hq : at_ + 2 < s.size) (hlo : 48 ≤ s[at_ + 2].toNat) (hhi : s[at_ + 2].toNat ≤ 57) :
    Calls Tryz.prog 76 #[.pointer (some ⟨r, 0, none⟩), .bool true] w fun x w' => (x = .returned (.bool true) ∧ at_ + 2 + digK 0 (s.data.toList.drop (at_ + 2)) ≤ s.size ∧ RdR r s (at_ + 2 + digK 0 (s.data.toList.drop (at_ + 2))) v 0 w') ∧ RK r w w' := by
  have HH := Lib.hid h
  have hlt := h.lt
  have HLA : Hid (∀ W, Below w.heap.size w W → Calls Tryz.prog 48 #[.pointer (some ⟨r, 0, none⟩)] W fun x w' => x = .returned (.int .u8 ((lookJ 0 (s.data.toList.drop at_)).toNat : Int)) ∧ Below W.heap.size W w') := Lib.hid fun W hW => rlook_any r s at_ v 0 ha hs W (HH.out.below hW)
  obtain ⟨c0, c1, c2, c3⟩ := h.cells
  rw [hm] at HLA
  rw [show ((((69 : UInt8)).toNat : Nat) : Int) = 69 from rfl] at HLA
  clear hm
  have hx1 : ((s[at_ + 1].toNat : Int) == 43) = true := by rw [hs1]; rfl
  have hx2 : ((s[at_ + 1].toNat : Int) == 45) = false := by rw [hs1]; rfl
  have hy1 : decide ((s[at_ + 2].toNat : Int) < 48) = false := decide_eq_false (by omega)
  have hy2 : decide ((57 : Int) < (s[at_ + 2].toNat : Int)) = false := decide_eq_false (by omega)
  have HDS : Hid (∀ W, RdR r s (at_ + 2) v 0 W → Calls Tryz.prog 75 #[.pointer (some ⟨r, 0, none⟩)] W fun x w' => x = .returned (.tuple #[]) ∧ (at_ + 2 + digK 0 (s.data.toList.drop (at_ + 2)) ≤ s.size ∧ RdR r s (at_ + 2 + digK 0 (s.data.toList.drop (at_ + 2))) v 0 w') ∧ RK r W w') := Lib.hid fun W hW => by
    have := rdigits_any r s (at_ + 2) v 0 (by omega) hs W hW
    rw [if_neg (show ¬ ((0 : Int) = 0 ∧ digK 0 (s.data.toList.drop (at_ + 2)) = 0) from fun hh => by
      have h2 := (digK_go (e := 0) (s := s) (a := at_ + 2) (by unfold lookJ; rw [if_neg (by simp), drop_at s _ hq, List.headD_cons]; exact (isDig_iff _).2 ⟨hlo, hhi⟩)).2.2
      omega)] at this
    exact this
  clear h
  go_enter Tryz.func76, Tryz.ntmps76
  go_wp2_with fail
  refine (HLA.out _ (Below.refl _ _)).mono ?_; rintro x w1 ⟨rfl, hb⟩
  have HB1 := Lib.hid hb
  clear hb
  go_wp2_with fail
  refine (HLA.out _ HB1.out).mono ?_; rintro x w2 ⟨rfl, hb⟩
  have HB2 : Hid (Below w.heap.size w w2) := Lib.hid (HB1.out.trans (hb.mono HB1.out.size))
  clear hb
  have HRN := Lib.hid (HH.out.below HB2.out)
  have HKN := Lib.hid (RK.of_below HB2.out hlt)
  obtain ⟨c0, c1, c2, c3⟩ := HRN.out.cells
  have f1 := HRN.out.frozen 1
  go_wp2_with fail
  have HRM : Hid (RdR r s (at_ + 2) v 0 (w2.setCell ⟨r, 1, none⟩ (.int .i64 ((at_ : Int) + 2)))) := Lib.hid (by
    have := HRN.out.at_ (at_ + 2)
    rw [show ((at_ + 2 : Nat) : Int) = (at_ : Int) + 2 from by omega] at this
    exact this)
  refine (HDS.out _ HRM.out).mono ?_; rintro x w9 ⟨rfl, ⟨hr1, hr2⟩, hk⟩
  have HE : Hid ((at_ + 2 + digK 0 (s.data.toList.drop (at_ + 2)) ≤ s.size ∧ RdR r s (at_ + 2 + digK 0 (s.data.toList.drop (at_ + 2))) v 0 w9) ∧ RK r w w9) := Lib.hid ⟨⟨hr1, hr2⟩, (HKN.out.trans (RK.set _ _ _ _)).trans hk⟩
  clear hr1 hr2 hk
  go_wp2_with fail
  go_ret
  exact ⟨⟨rfl, HE.out.1⟩, HE.out.2⟩
set_option maxRecDepth 100000 in
set_option maxHeartbeats 2000000 in
theorem rpower69_45_out (r : Nat) (s : ByteArray) (at_ : Nat) (v : Value) (ha : at_ ≤ s.size) (hs : s.size ≤ 1000000) (w : World) (h : RdR r s at_ v 0 w) (hm : lookJ 0 (s.data.toList.drop at_) = 69) (h1 : at_ + 1 < s.size) (hs1 : s[at_ + 1].toNat = 45) (hq : ¬ at_ + 2 < s.size) :
    Calls Tryz.prog 76 #[.pointer (some ⟨r, 0, none⟩), .bool true] w fun x w' => (x = .returned (.bool false) ∧ RdR r s at_ v 0 w') ∧ RK r w w' := by
  have HH := Lib.hid h
  have hlt := h.lt
  have HLA : Hid (∀ W, Below w.heap.size w W → Calls Tryz.prog 48 #[.pointer (some ⟨r, 0, none⟩)] W fun x w' => x = .returned (.int .u8 ((lookJ 0 (s.data.toList.drop at_)).toNat : Int)) ∧ Below W.heap.size W w') := Lib.hid fun W hW => rlook_any r s at_ v 0 ha hs W (HH.out.below hW)
  obtain ⟨c0, c1, c2, c3⟩ := h.cells
  rw [hm] at HLA
  rw [show ((((69 : UInt8)).toNat : Nat) : Int) = 69 from rfl] at HLA
  clear hm
  have hx1 : ((s[at_ + 1].toNat : Int) == 43) = false := by rw [hs1]; rfl
  have hx2 : ((s[at_ + 1].toNat : Int) == 45) = true := by rw [hs1]; rfl
  clear h
  go_enter Tryz.func76, Tryz.ntmps76
  go_wp2_with fail
  refine (HLA.out _ (Below.refl _ _)).mono ?_; rintro x w1 ⟨rfl, hb⟩
  have HB1 := Lib.hid hb
  clear hb
  go_wp2_with fail
  refine (HLA.out _ HB1.out).mono ?_; rintro x w2 ⟨rfl, hb⟩
  have HB2 : Hid (Below w.heap.size w w2) := Lib.hid (HB1.out.trans (hb.mono HB1.out.size))
  clear hb
  have HRN := Lib.hid (HH.out.below HB2.out)
  have HKN := Lib.hid (RK.of_below HB2.out hlt)
  obtain ⟨c0, c1, c2, c3⟩ := HRN.out.cells
  have f1 := HRN.out.frozen 1
  go_wp2_with fail
  go_ret
  exact ⟨⟨rfl, HRN.out⟩, HKN.out⟩
set_option maxRecDepth 100000 in
set_option maxHeartbeats 2000000 in
theorem rpower69_45_low (r : Nat) (s : ByteArray) (at_ : Nat) (v : Value) (ha : at_ ≤ s.size) (hs : s.size ≤ 1000000) (w : World) (h : RdR r s at_ v 0 w) (hm : lookJ 0 (s.data.toList.drop at_) = 69) (h1 : at_ + 1 < s.size) (hs1 : s[at_ + 1].toNat = 45) (hq : at_ + 2 < s.size) (hlo : s[at_ + 2].toNat < 48) :
    Calls Tryz.prog 76 #[.pointer (some ⟨r, 0, none⟩), .bool true] w fun x w' => (x = .returned (.bool false) ∧ RdR r s at_ v 0 w') ∧ RK r w w' := by
  have HH := Lib.hid h
  have hlt := h.lt
  have HLA : Hid (∀ W, Below w.heap.size w W → Calls Tryz.prog 48 #[.pointer (some ⟨r, 0, none⟩)] W fun x w' => x = .returned (.int .u8 ((lookJ 0 (s.data.toList.drop at_)).toNat : Int)) ∧ Below W.heap.size W w') := Lib.hid fun W hW => rlook_any r s at_ v 0 ha hs W (HH.out.below hW)
  obtain ⟨c0, c1, c2, c3⟩ := h.cells
  rw [hm] at HLA
  rw [show ((((69 : UInt8)).toNat : Nat) : Int) = 69 from rfl] at HLA
  clear hm
  have hx1 : ((s[at_ + 1].toNat : Int) == 43) = false := by rw [hs1]; rfl
  have hx2 : ((s[at_ + 1].toNat : Int) == 45) = true := by rw [hs1]; rfl
  have hy1 : decide ((s[at_ + 2].toNat : Int) < 48) = true := decide_eq_true (by omega)
  clear h
  go_enter Tryz.func76, Tryz.ntmps76
  go_wp2_with fail
  refine (HLA.out _ (Below.refl _ _)).mono ?_; rintro x w1 ⟨rfl, hb⟩
  have HB1 := Lib.hid hb
  clear hb
  go_wp2_with fail
  refine (HLA.out _ HB1.out).mono ?_; rintro x w2 ⟨rfl, hb⟩
  have HB2 : Hid (Below w.heap.size w w2) := Lib.hid (HB1.out.trans (hb.mono HB1.out.size))
  clear hb
  have HRN := Lib.hid (HH.out.below HB2.out)
  have HKN := Lib.hid (RK.of_below HB2.out hlt)
  obtain ⟨c0, c1, c2, c3⟩ := HRN.out.cells
  have f1 := HRN.out.frozen 1
  go_wp2_with fail
  go_ret
  exact ⟨⟨rfl, HRN.out⟩, HKN.out⟩
set_option maxRecDepth 100000 in
set_option maxHeartbeats 2000000 in
theorem rpower69_45_high (r : Nat) (s : ByteArray) (at_ : Nat) (v : Value) (ha : at_ ≤ s.size) (hs : s.size ≤ 1000000) (w : World) (h : RdR r s at_ v 0 w) (hm : lookJ 0 (s.data.toList.drop at_) = 69) (h1 : at_ + 1 < s.size) (hs1 : s[at_ + 1].toNat = 45) (hq : at_ + 2 < s.size) (hhi : 57 < s[at_ + 2].toNat) :
    Calls Tryz.prog 76 #[.pointer (some ⟨r, 0, none⟩), .bool true] w fun x w' => (x = .returned (.bool false) ∧ RdR r s at_ v 0 w') ∧ RK r w w' := by
  have HH := Lib.hid h
  have hlt := h.lt
  have HLA : Hid (∀ W, Below w.heap.size w W → Calls Tryz.prog 48 #[.pointer (some ⟨r, 0, none⟩)] W fun x w' => x = .returned (.int .u8 ((lookJ 0 (s.data.toList.drop at_)).toNat : Int)) ∧ Below W.heap.size W w') := Lib.hid fun W hW => rlook_any r s at_ v 0 ha hs W (HH.out.below hW)
  obtain ⟨c0, c1, c2, c3⟩ := h.cells
  rw [hm] at HLA
  rw [show ((((69 : UInt8)).toNat : Nat) : Int) = 69 from rfl] at HLA
  clear hm
  have hx1 : ((s[at_ + 1].toNat : Int) == 43) = false := by rw [hs1]; rfl
  have hx2 : ((s[at_ + 1].toNat : Int) == 45) = true := by rw [hs1]; rfl
  have hy1 : decide ((s[at_ + 2].toNat : Int) < 48) = false := decide_eq_false (by omega)
  have hy2 : decide ((57 : Int) < (s[at_ + 2].toNat : Int)) = true := decide_eq_true (by omega)
  clear h
  go_enter Tryz.func76, Tryz.ntmps76
  go_wp2_with fail
  refine (HLA.out _ (Below.refl _ _)).mono ?_; rintro x w1 ⟨rfl, hb⟩
  have HB1 := Lib.hid hb
  clear hb
  go_wp2_with fail
  refine (HLA.out _ HB1.out).mono ?_; rintro x w2 ⟨rfl, hb⟩
  have HB2 : Hid (Below w.heap.size w w2) := Lib.hid (HB1.out.trans (hb.mono HB1.out.size))
  clear hb
  have HRN := Lib.hid (HH.out.below HB2.out)
  have HKN := Lib.hid (RK.of_below HB2.out hlt)
  obtain ⟨c0, c1, c2, c3⟩ := HRN.out.cells
  have f1 := HRN.out.frozen 1
  go_wp2_with fail
  go_ret
  exact ⟨⟨rfl, HRN.out⟩, HKN.out⟩
set_option maxRecDepth 100000 in
set_option maxHeartbeats 2000000 in
theorem rpower69_45_dig (r : Nat) (s : ByteArray) (at_ : Nat) (v : Value) (ha : at_ ≤ s.size) (hs : s.size ≤ 1000000) (w : World) (h : RdR r s at_ v 0 w) (hm : lookJ 0 (s.data.toList.drop at_) = 69) (h1 : at_ + 1 < s.size) (hs1 : s[at_ + 1].toNat = 45) (hq : at_ + 2 < s.size) (hlo : 48 ≤ s[at_ + 2].toNat) (hhi : s[at_ + 2].toNat ≤ 57) :
    Calls Tryz.prog 76 #[.pointer (some ⟨r, 0, none⟩), .bool true] w fun x w' => (x = .returned (.bool true) ∧ at_ + 2 + digK 0 (s.data.toList.drop (at_ + 2)) ≤ s.size ∧ RdR r s (at_ + 2 + digK 0 (s.data.toList.drop (at_ + 2))) v 0 w') ∧ RK r w w' := by
  have HH := Lib.hid h
  have hlt := h.lt
  have HLA : Hid (∀ W, Below w.heap.size w W → Calls Tryz.prog 48 #[.pointer (some ⟨r, 0, none⟩)] W fun x w' => x = .returned (.int .u8 ((lookJ 0 (s.data.toList.drop at_)).toNat : Int)) ∧ Below W.heap.size W w') := Lib.hid fun W hW => rlook_any r s at_ v 0 ha hs W (HH.out.below hW)
  obtain ⟨c0, c1, c2, c3⟩ := h.cells
  rw [hm] at HLA
  rw [show ((((69 : UInt8)).toNat : Nat) : Int) = 69 from rfl] at HLA
  clear hm
  have hx1 : ((s[at_ + 1].toNat : Int) == 43) = false := by rw [hs1]; rfl
  have hx2 : ((s[at_ + 1].toNat : Int) == 45) = true := by rw [hs1]; rfl
  have hy1 : decide ((s[at_ + 2].toNat : Int) < 48) = false := decide_eq_false (by omega)
  have hy2 : decide ((57 : Int) < (s[at_ + 2].toNat : Int)) = false := decide_eq_false (by omega)
  have HDS : Hid (∀ W, RdR r s (at_ + 2) v 0 W → Calls Tryz.prog 75 #[.pointer (some ⟨r, 0, none⟩)] W fun x w' => x = .returned (.tuple #[]) ∧ (at_ + 2 + digK 0 (s.data.toList.drop (at_ + 2)) ≤ s.size ∧ RdR r s (at_ + 2 + digK 0 (s.data.toList.drop (at_ + 2))) v 0 w') ∧ RK r W w') := Lib.hid fun W hW => by
    have := rdigits_any r s (at_ + 2) v 0 (by omega) hs W hW
    rw [if_neg (show ¬ ((0 : Int) = 0 ∧ digK 0 (s.data.toList.drop (at_ + 2)) = 0) from fun hh => by
      have h2 := (digK_go (e := 0) (s := s) (a := at_ + 2) (by unfold lookJ; rw [if_neg (by simp), drop_at s _ hq, List.headD_cons]; exact (isDig_iff _).2 ⟨hlo, hhi⟩)).2.2
      omega)] at this
    exact this
  clear h
  go_enter Tryz.func76, Tryz.ntmps76
  go_wp2_with fail
  refine (HLA.out _ (Below.refl _ _)).mono ?_; rintro x w1 ⟨rfl, hb⟩
  have HB1 := Lib.hid hb
  clear hb
  go_wp2_with fail
  refine (HLA.out _ HB1.out).mono ?_; rintro x w2 ⟨rfl, hb⟩
  have HB2 : Hid (Below w.heap.size w w2) := Lib.hid (HB1.out.trans (hb.mono HB1.out.size))
  clear hb
  have HRN := Lib.hid (HH.out.below HB2.out)
  have HKN := Lib.hid (RK.of_below HB2.out hlt)
  obtain ⟨c0, c1, c2, c3⟩ := HRN.out.cells
  have f1 := HRN.out.frozen 1
  go_wp2_with fail
  have HRM : Hid (RdR r s (at_ + 2) v 0 (w2.setCell ⟨r, 1, none⟩ (.int .i64 ((at_ : Int) + 2)))) := Lib.hid (by
    have := HRN.out.at_ (at_ + 2)
    rw [show ((at_ + 2 : Nat) : Int) = (at_ : Int) + 2 from by omega] at this
    exact this)
  refine (HDS.out _ HRM.out).mono ?_; rintro x w9 ⟨rfl, ⟨hr1, hr2⟩, hk⟩
  have HE : Hid ((at_ + 2 + digK 0 (s.data.toList.drop (at_ + 2)) ≤ s.size ∧ RdR r s (at_ + 2 + digK 0 (s.data.toList.drop (at_ + 2))) v 0 w9) ∧ RK r w w9) := Lib.hid ⟨⟨hr1, hr2⟩, (HKN.out.trans (RK.set _ _ _ _)).trans hk⟩
  clear hr1 hr2 hk
  go_wp2_with fail
  go_ret
  exact ⟨⟨rfl, HE.out.1⟩, HE.out.2⟩
end Go.Proofs.YtglhanblbojkhaaGreatDoor
