/- The walk through a text's Decimal (money: Parse). -/
import Derived.Test.YtpkkejcndmcbiaaGreatDoorRc
import Derived.Test.YtpkkejcndmcbiaaGreatDoorMe
import Derived.Test.YtpkkejcndmcbiaaGreatDoorCu
import Derived.Deep.LoopGhost
set_option linter.unusedSimpArgs false
set_option linter.unusedVariables false
namespace Go.Proofs.YtpkkejcndmcbiaaGreatDoor
open Go.RowKit
theorem own2d {w w1 : World} {x y : Value} {t : TypeId} {n : Nat} (hb : Below ((w.alloc (.cells #[x, y] t)).drewN n).heap.size ((w.alloc (.cells #[x, y] t)).drewN n) w1) :
    w1.cell? ⟨w.heap.size, 0, none⟩ = some x ∧ w1.cell? ⟨w.heap.size, 1, none⟩ = some y ∧ w1.frozen? ⟨w.heap.size, 0, none⟩ = false ∧ w1.frozen? ⟨w.heap.size, 1, none⟩ = false ∧ w.heap.size < w1.heap.size ∧ Below w.heap.size w w1 :=
  own2 ((below_drewN' (w.alloc (.cells #[x, y] t)).heap.size (w.alloc (.cells #[x, y] t)) n).trans hb)
/-- One block of two cells, its own, behind a call that only makes blocks. -/
theorem keep1 {w W w1 : World} {b : Nat} {x y : Value} (hb : Below W.heap.size W w1) (h : W.cell? ⟨b, 0, none⟩ = some x ∧ W.cell? ⟨b, 1, none⟩ = some y ∧ W.frozen? ⟨b, 0, none⟩ = false ∧ W.frozen? ⟨b, 1, none⟩ = false ∧ b < W.heap.size ∧ Below w.heap.size w W) :
    w1.cell? ⟨b, 0, none⟩ = some x ∧ w1.cell? ⟨b, 1, none⟩ = some y ∧ w1.frozen? ⟨b, 0, none⟩ = false ∧ w1.frozen? ⟨b, 1, none⟩ = false ∧ b < w1.heap.size ∧ Below w.heap.size w w1 := by
  obtain ⟨h0, h1, h2, h3, h4, h5⟩ := h
  obtain ⟨cc, ff⟩ := bcell hb
  exact ⟨(cc _ _ h4).trans h0, (cc _ _ h4).trans h1, (ff _ _ h4).trans h2, (ff _ _ h4).trans h3, Nat.lt_of_lt_of_le h4 hb.size, h5.trans (hb.mono h5.size)⟩
set_option maxRecDepth 100000 in
set_option maxHeartbeats 2000000 in
theorem parse_e1 (s dB fB bB : ByteArray) (bl pt : Bool) (v e : Int) (w : World) (he : Env w)
    (HC : Hid (∀ w, Calls Tryz.prog 89 #[.string s, .string ⟨#[45]⟩] w fun e w' => e = .returned (.tuple #[.string dB, .bool bl]) ∧ w = w'))
    (HK : Hid (∀ w, Calls Tryz.prog 90 #[.string dB, .string ⟨#[46]⟩] w fun e w' => e = .returned (.tuple #[.string fB, .string bB, .bool pt]) ∧ ∃ n, w' = w.drewN n))
    (HR : Hid (∀ w, Env w → Calls Tryz.prog 91 #[.string fB] w fun e' w' => e' = .returned (.tuple #[.int .i64 v, .int .i64 e]) ∧ Below w.heap.size w w'))
    (h1 : (e == 21) = true) :
    Calls Tryz.prog 60 #[.string s] w fun e w' => e = .returned (.tuple #[.agg #[.int .i64 0, .int .i64 0], .int .i64 140]) ∧ Below w.heap.size w w' := by
  go_enter Tryz.func60, Tryz.ntmps60
  go_wp2_with fail
  refine (HC.out _).mono ?_; rintro e w1 ⟨rfl, rfl⟩
  go_wp2_with fail
  refine (HK.out _).mono ?_; rintro e w1 ⟨rfl, nd, rfl⟩
  go_wp2_with fail
  refine ((HR.out _ (he.stays (below_drawN nd ((Below.refl _ _).alloc (Nat.le_refl _) _)))).mono ?_); rintro e w1 ⟨rfl, hb1⟩
  obtain ⟨c0, c1, f0, f1, hz, hbw⟩ := own2d hb1
  clear hb1
  go_wp2_with fail
  refine bodyPost_ret (v := .tuple #[.agg #[.int .i64 0, .int .i64 0], .int .i64 140]) (by simp [results, Tryz.results60, go_sem, *]) rfl ⟨rfl, ?_⟩
  go_grown
set_option maxRecDepth 100000 in
set_option maxHeartbeats 2000000 in
theorem parse_e2 (s dB fB bB : ByteArray) (bl pt : Bool) (v e : Int) (w : World) (he : Env w)
    (HC : Hid (∀ w, Calls Tryz.prog 89 #[.string s, .string ⟨#[45]⟩] w fun e w' => e = .returned (.tuple #[.string dB, .bool bl]) ∧ w = w'))
    (HK : Hid (∀ w, Calls Tryz.prog 90 #[.string dB, .string ⟨#[46]⟩] w fun e w' => e = .returned (.tuple #[.string fB, .string bB, .bool pt]) ∧ ∃ n, w' = w.drewN n))
    (HR : Hid (∀ w, Env w → Calls Tryz.prog 91 #[.string fB] w fun e' w' => e' = .returned (.tuple #[.int .i64 v, .int .i64 e]) ∧ Below w.heap.size w w'))
    (h1 : (e == 21) = false) (HP : Hid (∀ w, Calls Tryz.prog 92 #[.string fB, .string ⟨#[45]⟩] w fun e w' => e = .returned (.bool true) ∧ w = w')) :
    Calls Tryz.prog 60 #[.string s] w fun e w' => e = .returned (.tuple #[.agg #[.int .i64 0, .int .i64 0], .int .i64 140]) ∧ Below w.heap.size w w' := by
  go_enter Tryz.func60, Tryz.ntmps60
  go_wp2_with fail
  refine (HC.out _).mono ?_; rintro e w1 ⟨rfl, rfl⟩
  go_wp2_with fail
  refine (HK.out _).mono ?_; rintro e w1 ⟨rfl, nd, rfl⟩
  go_wp2_with fail
  refine ((HR.out _ (he.stays (below_drawN nd ((Below.refl _ _).alloc (Nat.le_refl _) _)))).mono ?_); rintro e w1 ⟨rfl, hb1⟩
  obtain ⟨c0, c1, f0, f1, hz, hbw⟩ := own2d hb1
  clear hb1
  go_wp2_with fail
  refine (HP.out _).mono ?_; rintro e w2 ⟨rfl, rfl⟩
  go_wp2_with fail
  refine bodyPost_ret (v := .tuple #[.agg #[.int .i64 0, .int .i64 0], .int .i64 140]) (by simp [results, Tryz.results60, go_sem, *]) rfl ⟨rfl, ?_⟩
  go_grown
set_option maxRecDepth 100000 in
set_option maxHeartbeats 2000000 in
theorem parse_e3 (s dB fB bB : ByteArray) (bl pt : Bool) (v e : Int) (w : World) (he : Env w)
    (HC : Hid (∀ w, Calls Tryz.prog 89 #[.string s, .string ⟨#[45]⟩] w fun e w' => e = .returned (.tuple #[.string dB, .bool bl]) ∧ w = w'))
    (HK : Hid (∀ w, Calls Tryz.prog 90 #[.string dB, .string ⟨#[46]⟩] w fun e w' => e = .returned (.tuple #[.string fB, .string bB, .bool pt]) ∧ ∃ n, w' = w.drewN n))
    (HR : Hid (∀ w, Env w → Calls Tryz.prog 91 #[.string fB] w fun e' w' => e' = .returned (.tuple #[.int .i64 v, .int .i64 e]) ∧ Below w.heap.size w w'))
    (h1 : (e == 21) = false) (HP : Hid (∀ w, Calls Tryz.prog 92 #[.string fB, .string ⟨#[45]⟩] w fun e w' => e = .returned (.bool false) ∧ w = w')) (h2 : pt = true) (h3 : bB.toList = []) (h4 : bB.toList.isEmpty = true) :
    Calls Tryz.prog 60 #[.string s] w fun e w' => e = .returned (.tuple #[.agg #[.int .i64 0, .int .i64 0], .int .i64 140]) ∧ Below w.heap.size w w' := by
  subst h2
  go_enter Tryz.func60, Tryz.ntmps60
  go_wp2_with fail
  refine (HC.out _).mono ?_; rintro e w1 ⟨rfl, rfl⟩
  go_wp2_with fail
  refine (HK.out _).mono ?_; rintro e w1 ⟨rfl, nd, rfl⟩
  go_wp2_with fail
  refine ((HR.out _ (he.stays (below_drawN nd ((Below.refl _ _).alloc (Nat.le_refl _) _)))).mono ?_); rintro e w1 ⟨rfl, hb1⟩
  obtain ⟨c0, c1, f0, f1, hz, hbw⟩ := own2d hb1
  clear hb1
  go_wp2_with fail
  refine (HP.out _).mono ?_; rintro e w2 ⟨rfl, rfl⟩
  go_wp2_with fail
  refine bodyPost_ret (v := .tuple #[.agg #[.int .i64 0, .int .i64 0], .int .i64 140]) (by simp [results, Tryz.results60, go_sem, *]) rfl ⟨rfl, ?_⟩
  go_grown
set_option maxRecDepth 100000 in
set_option maxHeartbeats 2000000 in
theorem parse_e4 (s dB fB bB : ByteArray) (bl pt : Bool) (v e : Int) (w : World) (he : Env w)
    (HC : Hid (∀ w, Calls Tryz.prog 89 #[.string s, .string ⟨#[45]⟩] w fun e w' => e = .returned (.tuple #[.string dB, .bool bl]) ∧ w = w'))
    (HK : Hid (∀ w, Calls Tryz.prog 90 #[.string dB, .string ⟨#[46]⟩] w fun e w' => e = .returned (.tuple #[.string fB, .string bB, .bool pt]) ∧ ∃ n, w' = w.drewN n))
    (HR : Hid (∀ w, Env w → Calls Tryz.prog 91 #[.string fB] w fun e' w' => e' = .returned (.tuple #[.int .i64 v, .int .i64 e]) ∧ Below w.heap.size w w'))
    (h1 : (e == 21) = false) (HP : Hid (∀ w, Calls Tryz.prog 92 #[.string fB, .string ⟨#[45]⟩] w fun e w' => e = .returned (.bool false) ∧ w = w')) (h2 : pt = true) (h3 : ¬ bB.toList = []) (h4 : bB.toList.isEmpty = false) (h5 : 18 < bB.size) (h6 : bB.size ≤ 281474976710656) :
    Calls Tryz.prog 60 #[.string s] w fun e w' => e = .returned (.tuple #[.agg #[.int .i64 0, .int .i64 0], .int .i64 140]) ∧ Below w.heap.size w w' := by
  subst h2
  go_enter Tryz.func60, Tryz.ntmps60
  go_wp2_with fail
  refine (HC.out _).mono ?_; rintro e w1 ⟨rfl, rfl⟩
  go_wp2_with fail
  refine (HK.out _).mono ?_; rintro e w1 ⟨rfl, nd, rfl⟩
  go_wp2_with fail
  refine ((HR.out _ (he.stays (below_drawN nd ((Below.refl _ _).alloc (Nat.le_refl _) _)))).mono ?_); rintro e w1 ⟨rfl, hb1⟩
  obtain ⟨c0, c1, f0, f1, hz, hbw⟩ := own2d hb1
  clear hb1
  go_wp2_with fail
  refine (HP.out _).mono ?_; rintro e w2 ⟨rfl, rfl⟩
  go_wp2_with fail
  refine bodyPost_ret (v := .tuple #[.agg #[.int .i64 0, .int .i64 0], .int .i64 140]) (by simp [results, Tryz.results60, go_sem, *]) rfl ⟨rfl, ?_⟩
  go_grown
set_option maxRecDepth 100000 in
set_option maxHeartbeats 2000000 in
theorem parse_e5 (s dB fB bB : ByteArray) (bl pt : Bool) (v e : Int) (w : World) (he : Env w)
    (HC : Hid (∀ w, Calls Tryz.prog 89 #[.string s, .string ⟨#[45]⟩] w fun e w' => e = .returned (.tuple #[.string dB, .bool bl]) ∧ w = w'))
    (HK : Hid (∀ w, Calls Tryz.prog 90 #[.string dB, .string ⟨#[46]⟩] w fun e w' => e = .returned (.tuple #[.string fB, .string bB, .bool pt]) ∧ ∃ n, w' = w.drewN n))
    (HR : Hid (∀ w, Env w → Calls Tryz.prog 91 #[.string fB] w fun e' w' => e' = .returned (.tuple #[.int .i64 v, .int .i64 e]) ∧ Below w.heap.size w w'))
    (tB : ByteArray) (h1 : (e == 21) = false) (HP : Hid (∀ w, Calls Tryz.prog 92 #[.string fB, .string ⟨#[45]⟩] w fun e w' => e = .returned (.bool false) ∧ w = w')) (h2 : pt = true) (h3 : ¬ bB.toList = []) (h4 : bB.toList.isEmpty = false) (h5 : bB.size ≤ 18) (HT : Hid (∀ w, Calls Tryz.prog 93 #[.string bB, .string ⟨#[48, 49, 50, 51, 52, 53, 54, 55, 56, 57]⟩] w fun e w' => e = .returned (.string tB) ∧ Below w.heap.size w w')) (h6 : ¬ tB.toList = []) (h7 : tB.toList.isEmpty = false) :
    Calls Tryz.prog 60 #[.string s] w fun e w' => e = .returned (.tuple #[.agg #[.int .i64 0, .int .i64 0], .int .i64 140]) ∧ Below w.heap.size w w' := by
  subst h2
  go_enter Tryz.func60, Tryz.ntmps60
  go_wp2_with fail
  refine (HC.out _).mono ?_; rintro e w1 ⟨rfl, rfl⟩
  go_wp2_with fail
  refine (HK.out _).mono ?_; rintro e w1 ⟨rfl, nd, rfl⟩
  go_wp2_with fail
  refine ((HR.out _ (he.stays (below_drawN nd ((Below.refl _ _).alloc (Nat.le_refl _) _)))).mono ?_); rintro e w1 ⟨rfl, hb1⟩
  obtain ⟨c0, c1, f0, f1, hz, hbw⟩ := own2d hb1
  clear hb1
  go_wp2_with fail
  refine (HP.out _).mono ?_; rintro e w2 ⟨rfl, rfl⟩
  go_wp2_with fail
  refine (HT.out _).mono ?_; rintro e w2 ⟨rfl, hb2⟩
  have hk := keep1 hb2 ⟨c0, c1, f0, f1, hz, hbw⟩
  clear c0 c1 f0 f1 hz hbw hb2
  obtain ⟨c0, c1, f0, f1, hz, hbw⟩ := hk
  go_wp2_with fail
  refine bodyPost_ret (v := .tuple #[.agg #[.int .i64 0, .int .i64 0], .int .i64 140]) (by simp [results, Tryz.results60, go_sem, *]) rfl ⟨rfl, ?_⟩
  go_grown
set_option maxRecDepth 100000 in
set_option maxHeartbeats 2000000 in
theorem parse_z_np (s dB fB bB : ByteArray) (bl pt : Bool) (v e : Int) (w : World) (he : Env w)
    (HC : Hid (∀ w, Calls Tryz.prog 89 #[.string s, .string ⟨#[45]⟩] w fun e w' => e = .returned (.tuple #[.string dB, .bool bl]) ∧ w = w'))
    (HK : Hid (∀ w, Calls Tryz.prog 90 #[.string dB, .string ⟨#[46]⟩] w fun e w' => e = .returned (.tuple #[.string fB, .string bB, .bool pt]) ∧ ∃ n, w' = w.drewN n))
    (HR : Hid (∀ w, Env w → Calls Tryz.prog 91 #[.string fB] w fun e' w' => e' = .returned (.tuple #[.int .i64 v, .int .i64 e]) ∧ Below w.heap.size w w'))
    (h1 : (e == 21) = false) (HP : Hid (∀ w, Calls Tryz.prog 92 #[.string fB, .string ⟨#[45]⟩] w fun e w' => e = .returned (.bool false) ∧ w = w')) (h2 : pt = false) (hf : fB.size ≤ 140737488355328) (hb : bB.size ≤ 140737488355328) (aB : ByteArray) (HL : Hid (∀ w, Calls Tryz.prog 94 #[.string (fB ++ bB), .string ⟨#[48]⟩] w fun e w' => e = .returned (.string aB) ∧ w' = w)) (ha : aB.toList = []) (ha2 : aB.toList.isEmpty = true) :
    Calls Tryz.prog 60 #[.string s] w fun e w' => e = .returned (.tuple #[.agg #[.int .i64 0, .int .i64 0], .int .i64 0]) ∧ Below w.heap.size w w' := by
  subst h2
  go_enter Tryz.func60, Tryz.ntmps60
  go_wp2_with fail
  refine (HC.out _).mono ?_; rintro e w1 ⟨rfl, rfl⟩
  go_wp2_with fail
  refine (HK.out _).mono ?_; rintro e w1 ⟨rfl, nd, rfl⟩
  go_wp2_with fail
  refine ((HR.out _ (he.stays (below_drawN nd ((Below.refl _ _).alloc (Nat.le_refl _) _)))).mono ?_); rintro e w1 ⟨rfl, hb1⟩
  obtain ⟨c0, c1, f0, f1, hz, hbw⟩ := own2d hb1
  clear hb1
  go_wp2_with fail
  refine (HP.out _).mono ?_; rintro e w2 ⟨rfl, rfl⟩
  go_wp2_with fail
  refine (HL.out _).mono ?_; rintro e w4 ⟨rfl, rfl⟩
  go_wp2_with fail
  refine bodyPost_ret (v := .tuple #[.agg #[.int .i64 0, .int .i64 0], .int .i64 0]) (by simp [results, Tryz.results60, go_sem, *]) rfl ⟨rfl, ?_⟩
  go_grown
set_option maxRecDepth 100000 in
set_option maxHeartbeats 2000000 in
theorem parse_o_np_false (s dB fB bB : ByteArray) (bl pt : Bool) (v e : Int) (w : World) (he : Env w)
    (HC : Hid (∀ w, Calls Tryz.prog 89 #[.string s, .string ⟨#[45]⟩] w fun e w' => e = .returned (.tuple #[.string dB, .bool bl]) ∧ w = w'))
    (HK : Hid (∀ w, Calls Tryz.prog 90 #[.string dB, .string ⟨#[46]⟩] w fun e w' => e = .returned (.tuple #[.string fB, .string bB, .bool pt]) ∧ ∃ n, w' = w.drewN n))
    (HR : Hid (∀ w, Env w → Calls Tryz.prog 91 #[.string fB] w fun e' w' => e' = .returned (.tuple #[.int .i64 v, .int .i64 e]) ∧ Below w.heap.size w w'))
    (h1 : (e == 21) = false) (HP : Hid (∀ w, Calls Tryz.prog 92 #[.string fB, .string ⟨#[45]⟩] w fun e w' => e = .returned (.bool false) ∧ w = w')) (h2 : pt = false) (hf : fB.size ≤ 140737488355328) (hb : bB.size ≤ 140737488355328) (aB : ByteArray) (HL : Hid (∀ w, Calls Tryz.prog 94 #[.string (fB ++ bB), .string ⟨#[48]⟩] w fun e w' => e = .returned (.string aB) ∧ w' = w)) (hbl : bl = false) (ha : ¬ aB.toList = []) (ha2 : aB.toList.isEmpty = false) (hab : aB.size ≤ 281474976710656) (n e2 : Int) (HR2 : Hid (∀ w, Env w → Calls Tryz.prog 91 #[.string aB] w fun e' w' => e' = .returned (.tuple #[.int .i64 n, .int .i64 e2]) ∧ Below w.heap.size w w')) (h9 : (e2 != 0) = true) :
    Calls Tryz.prog 60 #[.string s] w fun e w' => e = .returned (.tuple #[.agg #[.int .i64 0, .int .i64 0], .int .i64 140]) ∧ Below w.heap.size w w' := by
  subst h2
  subst hbl
  go_enter Tryz.func60, Tryz.ntmps60
  go_wp2_with fail
  refine (HC.out _).mono ?_; rintro e w1 ⟨rfl, rfl⟩
  go_wp2_with fail
  refine (HK.out _).mono ?_; rintro e w1 ⟨rfl, nd, rfl⟩
  go_wp2_with fail
  refine ((HR.out _ (he.stays (below_drawN nd ((Below.refl _ _).alloc (Nat.le_refl _) _)))).mono ?_); rintro e w1 ⟨rfl, hb1⟩
  obtain ⟨c0, c1, f0, f1, hz, hbw⟩ := own2d hb1
  clear hb1
  go_wp2_with fail
  refine (HP.out _).mono ?_; rintro e w2 ⟨rfl, rfl⟩
  go_wp2_with fail
  refine (HL.out _).mono ?_; rintro e w4 ⟨rfl, rfl⟩
  go_wp2_with fail
  refine ((HR2.out _ (he.stays (by assumption))).mono ?_); rintro e w5 ⟨rfl, hb5⟩
  have hk := keep1 hb5 ⟨c0, c1, f0, f1, hz, hbw⟩
  clear c0 c1 f0 f1 hz hbw hb5
  obtain ⟨c0, c1, f0, f1, hz, hbw⟩ := hk
  go_wp2_with fail
  refine bodyPost_ret (v := .tuple #[.agg #[.int .i64 0, .int .i64 0], .int .i64 140]) (by simp [results, Tryz.results60, go_sem, *]) rfl ⟨rfl, ?_⟩
  go_grown
set_option maxRecDepth 100000 in
set_option maxHeartbeats 2000000 in
theorem parse_m_np_false (s dB fB bB : ByteArray) (bl pt : Bool) (v e : Int) (w : World) (he : Env w)
    (HC : Hid (∀ w, Calls Tryz.prog 89 #[.string s, .string ⟨#[45]⟩] w fun e w' => e = .returned (.tuple #[.string dB, .bool bl]) ∧ w = w'))
    (HK : Hid (∀ w, Calls Tryz.prog 90 #[.string dB, .string ⟨#[46]⟩] w fun e w' => e = .returned (.tuple #[.string fB, .string bB, .bool pt]) ∧ ∃ n, w' = w.drewN n))
    (HR : Hid (∀ w, Env w → Calls Tryz.prog 91 #[.string fB] w fun e' w' => e' = .returned (.tuple #[.int .i64 v, .int .i64 e]) ∧ Below w.heap.size w w'))
    (h1 : (e == 21) = false) (HP : Hid (∀ w, Calls Tryz.prog 92 #[.string fB, .string ⟨#[45]⟩] w fun e w' => e = .returned (.bool false) ∧ w = w')) (h2 : pt = false) (hf : fB.size ≤ 140737488355328) (hb : bB.size ≤ 140737488355328) (aB : ByteArray) (HL : Hid (∀ w, Calls Tryz.prog 94 #[.string (fB ++ bB), .string ⟨#[48]⟩] w fun e w' => e = .returned (.string aB) ∧ w' = w)) (hbl : bl = false) (ha : ¬ aB.toList = []) (ha2 : aB.toList.isEmpty = false) (hab : aB.size ≤ 281474976710656) (n e2 : Int) (HR2 : Hid (∀ w, Env w → Calls Tryz.prog 91 #[.string aB] w fun e' w' => e' = .returned (.tuple #[.int .i64 n, .int .i64 e2]) ∧ Below w.heap.size w w')) (h9 : e2 = 0) (hn : R n) (h8 : bB.size ≤ 18) (rM : Int) (rS : Nat) (HN : Hid (norm bB.size n = (rM, rS))) :
    Calls Tryz.prog 60 #[.string s] w fun e w' => e = .returned (.tuple #[.agg #[.int .i64 rM, .int .i64 (rS : Int)], .int .i64 0]) ∧ Below w.heap.size w w' := by
  subst h2
  subst hbl
  subst h9
  go_enter Tryz.func60, Tryz.ntmps60
  go_wp2_with fail
  refine (HC.out _).mono ?_; rintro e w1 ⟨rfl, rfl⟩
  go_wp2_with fail
  refine (HK.out _).mono ?_; rintro e w1 ⟨rfl, nd, rfl⟩
  go_wp2_with fail
  refine ((HR.out _ (he.stays (below_drawN nd ((Below.refl _ _).alloc (Nat.le_refl _) _)))).mono ?_); rintro e w1 ⟨rfl, hb1⟩
  obtain ⟨c0, c1, f0, f1, hz, hbw⟩ := own2d hb1
  clear hb1
  go_wp2_with fail
  refine (HP.out _).mono ?_; rintro e w2 ⟨rfl, rfl⟩
  go_wp2_with fail
  refine (HL.out _).mono ?_; rintro e w4 ⟨rfl, rfl⟩
  go_wp2_with fail
  refine ((HR2.out _ (he.stays (by assumption))).mono ?_); rintro e w5 ⟨rfl, hb5⟩
  have hk := keep1 hb5 ⟨c0, c1, f0, f1, hz, hbw⟩
  clear c0 c1 f0 f1 hz hbw hb5
  obtain ⟨c0, c1, f0, f1, hz, hbw⟩ := hk
  go_wp2_with fail
  go_loopg [84] bB.size (fun k u wr => ∃ (j : Nat) (y : Int), k = j ∧ j ≤ 18 ∧ R y ∧ wr.cell? ⟨w5.heap.size, 0, none⟩ = some (.int .i64 y) ∧ wr.cell? ⟨w5.heap.size, 1, none⟩ = some (.int .i64 j) ∧ wr.frozen? ⟨w5.heap.size, 0, none⟩ = false ∧ wr.frozen? ⟨w5.heap.size, 1, none⟩ = false ∧ wr.cell? ⟨w.heap.size, 0, none⟩ = some (.int .i64 0) ∧ wr.cell? ⟨w.heap.size, 1, none⟩ = some (.int .i64 0) ∧ wr.frozen? ⟨w.heap.size, 0, none⟩ = false ∧ wr.frozen? ⟨w.heap.size, 1, none⟩ = false ∧ w5.heap.size < wr.heap.size ∧ Hid (norm j y = (rM, rS)) ∧ Below w.heap.size w wr)
  case atStart =>
    refine ⟨bB.size, n, rfl, h8, hn, by simp [go_sem], by simp [go_sem], by simp [go_sem], by simp [go_sem], by simp [go_sem, *], by simp [go_sem, *], by simp [go_sem, *], by simp [go_sem, *], by simp, HN, ?_⟩
    go_grown
  case round =>
    obtain ⟨j, y, rfl, hj, hy, a0, a1, b0, b1, c0', c1', f0', f1', hz', HY, hbw'⟩ := hrel
    have hlt : ¬ w5.heap.size = w.heap.size := by omega
    clear c0 c1 f0 f1 hbw
    obtain ⟨y1, y2⟩ := hy
    by_cases hj0 : gk = 0
    · subst hj0
      have hend : rM = y ∧ rS = 0 := by have := HY.out; rw [norm] at this; exact ⟨congrArg Prod.fst this.symm, congrArg Prod.snd this.symm⟩
      obtain ⟨rfl, rfl⟩ := hend
      go_wp2_with fail
      refine bodyPost_ret (v := .tuple #[.agg #[.int .i64 rM, .int .i64 ((0 : Nat) : Int)], .int .i64 0]) (by simp [results, Tryz.results60, go_sem, *]) rfl ⟨rfl, ?_⟩
      go_grown
    · obtain ⟨i, rfl⟩ : ∃ i, gk = i + 1 := ⟨gk - 1, by omega⟩
      by_cases hm : y % 10 = 0
      · have ht : (y.tmod 10 == 0) = true := by rw [beq_iff_eq]; exact (tmod_zero y).2 hm
        obtain ⟨z, hq⟩ : ∃ z, y.tdiv 10 = z := ⟨_, rfl⟩
        have hqz : z = y / 10 := by rw [← hq, Int.tdiv_eq_ediv_of_dvd (Int.dvd_of_emod_eq_zero hm)]
        have HY2 : Hid (norm i z = (rM, rS)) := Lib.hid (by have := HY.out; rw [norm, if_pos hm, ← hqz] at this; exact this)
        have zb : -9223372036854775808 ≤ z ∧ z ≤ 9223372036854775807 := by omega
        obtain ⟨z1, z2⟩ := zb
        clear hqz hm hj0
        go_wp2_with fail
        go_roundg i
        case measure => omega
        case rel =>
          refine ⟨i, z, rfl, by omega, ⟨z1, z2⟩, by simp [go_sem, *], by simp [go_sem, *], by simp [go_sem, *], by simp [go_sem, *], by simp [go_sem, *], by simp [go_sem, *], by simp [go_sem, *], by simp [go_sem, *], by simpa using hz', HY2, ?_⟩
          go_grown
      · have ht : (y.tmod 10 == 0) = false := by rw [beq_eq_false_iff_ne]; exact fun h => hm ((tmod_zero y).1 h)
        have hend : rM = y ∧ rS = i + 1 := by have := HY.out; rw [norm, if_neg hm] at this; exact ⟨congrArg Prod.fst this.symm, congrArg Prod.snd this.symm⟩
        obtain ⟨rfl, rfl⟩ := hend
        clear hm hj0
        go_wp2_with fail
        refine bodyPost_ret (v := .tuple #[.agg #[.int .i64 rM, .int .i64 ((i : Int) + 1)], .int .i64 0]) (by simp [results, Tryz.results60, go_sem, *]) rfl ⟨rfl, ?_⟩
        go_grown
set_option maxRecDepth 100000 in
set_option maxHeartbeats 2000000 in
theorem parse_o_np_true (s dB fB bB : ByteArray) (bl pt : Bool) (v e : Int) (w : World) (he : Env w)
    (HC : Hid (∀ w, Calls Tryz.prog 89 #[.string s, .string ⟨#[45]⟩] w fun e w' => e = .returned (.tuple #[.string dB, .bool bl]) ∧ w = w'))
    (HK : Hid (∀ w, Calls Tryz.prog 90 #[.string dB, .string ⟨#[46]⟩] w fun e w' => e = .returned (.tuple #[.string fB, .string bB, .bool pt]) ∧ ∃ n, w' = w.drewN n))
    (HR : Hid (∀ w, Env w → Calls Tryz.prog 91 #[.string fB] w fun e' w' => e' = .returned (.tuple #[.int .i64 v, .int .i64 e]) ∧ Below w.heap.size w w'))
    (h1 : (e == 21) = false) (HP : Hid (∀ w, Calls Tryz.prog 92 #[.string fB, .string ⟨#[45]⟩] w fun e w' => e = .returned (.bool false) ∧ w = w')) (h2 : pt = false) (hf : fB.size ≤ 140737488355328) (hb : bB.size ≤ 140737488355328) (aB : ByteArray) (HL : Hid (∀ w, Calls Tryz.prog 94 #[.string (fB ++ bB), .string ⟨#[48]⟩] w fun e w' => e = .returned (.string aB) ∧ w' = w)) (hbl : bl = true) (ha : ¬ aB.toList = []) (ha2 : aB.toList.isEmpty = false) (hab : aB.size ≤ 281474976710656) (n e2 : Int) (HR2 : Hid (∀ w, Env w → Calls Tryz.prog 91 #[.string (⟨#[45]⟩ ++ aB)] w fun e' w' => e' = .returned (.tuple #[.int .i64 n, .int .i64 e2]) ∧ Below w.heap.size w w')) (h9 : (e2 != 0) = true) :
    Calls Tryz.prog 60 #[.string s] w fun e w' => e = .returned (.tuple #[.agg #[.int .i64 0, .int .i64 0], .int .i64 140]) ∧ Below w.heap.size w w' := by
  subst h2
  subst hbl
  go_enter Tryz.func60, Tryz.ntmps60
  go_wp2_with fail
  refine (HC.out _).mono ?_; rintro e w1 ⟨rfl, rfl⟩
  go_wp2_with fail
  refine (HK.out _).mono ?_; rintro e w1 ⟨rfl, nd, rfl⟩
  go_wp2_with fail
  refine ((HR.out _ (he.stays (below_drawN nd ((Below.refl _ _).alloc (Nat.le_refl _) _)))).mono ?_); rintro e w1 ⟨rfl, hb1⟩
  obtain ⟨c0, c1, f0, f1, hz, hbw⟩ := own2d hb1
  clear hb1
  go_wp2_with fail
  refine (HP.out _).mono ?_; rintro e w2 ⟨rfl, rfl⟩
  go_wp2_with fail
  refine (HL.out _).mono ?_; rintro e w4 ⟨rfl, rfl⟩
  go_wp2_with fail
  refine ((HR2.out _ (he.stays (by assumption))).mono ?_); rintro e w5 ⟨rfl, hb5⟩
  have hk := keep1 hb5 ⟨c0, c1, f0, f1, hz, hbw⟩
  clear c0 c1 f0 f1 hz hbw hb5
  obtain ⟨c0, c1, f0, f1, hz, hbw⟩ := hk
  go_wp2_with fail
  refine bodyPost_ret (v := .tuple #[.agg #[.int .i64 0, .int .i64 0], .int .i64 140]) (by simp [results, Tryz.results60, go_sem, *]) rfl ⟨rfl, ?_⟩
  go_grown
set_option maxRecDepth 100000 in
set_option maxHeartbeats 2000000 in
theorem parse_m_np_true (s dB fB bB : ByteArray) (bl pt : Bool) (v e : Int) (w : World) (he : Env w)
    (HC : Hid (∀ w, Calls Tryz.prog 89 #[.string s, .string ⟨#[45]⟩] w fun e w' => e = .returned (.tuple #[.string dB, .bool bl]) ∧ w = w'))
    (HK : Hid (∀ w, Calls Tryz.prog 90 #[.string dB, .string ⟨#[46]⟩] w fun e w' => e = .returned (.tuple #[.string fB, .string bB, .bool pt]) ∧ ∃ n, w' = w.drewN n))
    (HR : Hid (∀ w, Env w → Calls Tryz.prog 91 #[.string fB] w fun e' w' => e' = .returned (.tuple #[.int .i64 v, .int .i64 e]) ∧ Below w.heap.size w w'))
    (h1 : (e == 21) = false) (HP : Hid (∀ w, Calls Tryz.prog 92 #[.string fB, .string ⟨#[45]⟩] w fun e w' => e = .returned (.bool false) ∧ w = w')) (h2 : pt = false) (hf : fB.size ≤ 140737488355328) (hb : bB.size ≤ 140737488355328) (aB : ByteArray) (HL : Hid (∀ w, Calls Tryz.prog 94 #[.string (fB ++ bB), .string ⟨#[48]⟩] w fun e w' => e = .returned (.string aB) ∧ w' = w)) (hbl : bl = true) (ha : ¬ aB.toList = []) (ha2 : aB.toList.isEmpty = false) (hab : aB.size ≤ 281474976710656) (n e2 : Int) (HR2 : Hid (∀ w, Env w → Calls Tryz.prog 91 #[.string (⟨#[45]⟩ ++ aB)] w fun e' w' => e' = .returned (.tuple #[.int .i64 n, .int .i64 e2]) ∧ Below w.heap.size w w')) (h9 : e2 = 0) (hn : R n) (h8 : bB.size ≤ 18) (rM : Int) (rS : Nat) (HN : Hid (norm bB.size n = (rM, rS))) :
    Calls Tryz.prog 60 #[.string s] w fun e w' => e = .returned (.tuple #[.agg #[.int .i64 rM, .int .i64 (rS : Int)], .int .i64 0]) ∧ Below w.heap.size w w' := by
  subst h2
  subst hbl
  subst h9
  go_enter Tryz.func60, Tryz.ntmps60
  go_wp2_with fail
  refine (HC.out _).mono ?_; rintro e w1 ⟨rfl, rfl⟩
  go_wp2_with fail
  refine (HK.out _).mono ?_; rintro e w1 ⟨rfl, nd, rfl⟩
  go_wp2_with fail
  refine ((HR.out _ (he.stays (below_drawN nd ((Below.refl _ _).alloc (Nat.le_refl _) _)))).mono ?_); rintro e w1 ⟨rfl, hb1⟩
  obtain ⟨c0, c1, f0, f1, hz, hbw⟩ := own2d hb1
  clear hb1
  go_wp2_with fail
  refine (HP.out _).mono ?_; rintro e w2 ⟨rfl, rfl⟩
  go_wp2_with fail
  refine (HL.out _).mono ?_; rintro e w4 ⟨rfl, rfl⟩
  go_wp2_with fail
  refine ((HR2.out _ (he.stays (by assumption))).mono ?_); rintro e w5 ⟨rfl, hb5⟩
  have hk := keep1 hb5 ⟨c0, c1, f0, f1, hz, hbw⟩
  clear c0 c1 f0 f1 hz hbw hb5
  obtain ⟨c0, c1, f0, f1, hz, hbw⟩ := hk
  go_wp2_with fail
  go_loopg [84] bB.size (fun k u wr => ∃ (j : Nat) (y : Int), k = j ∧ j ≤ 18 ∧ R y ∧ wr.cell? ⟨w5.heap.size, 0, none⟩ = some (.int .i64 y) ∧ wr.cell? ⟨w5.heap.size, 1, none⟩ = some (.int .i64 j) ∧ wr.frozen? ⟨w5.heap.size, 0, none⟩ = false ∧ wr.frozen? ⟨w5.heap.size, 1, none⟩ = false ∧ wr.cell? ⟨w.heap.size, 0, none⟩ = some (.int .i64 0) ∧ wr.cell? ⟨w.heap.size, 1, none⟩ = some (.int .i64 0) ∧ wr.frozen? ⟨w.heap.size, 0, none⟩ = false ∧ wr.frozen? ⟨w.heap.size, 1, none⟩ = false ∧ w5.heap.size < wr.heap.size ∧ Hid (norm j y = (rM, rS)) ∧ Below w.heap.size w wr)
  case atStart =>
    refine ⟨bB.size, n, rfl, h8, hn, by simp [go_sem], by simp [go_sem], by simp [go_sem], by simp [go_sem], by simp [go_sem, *], by simp [go_sem, *], by simp [go_sem, *], by simp [go_sem, *], by simp, HN, ?_⟩
    go_grown
  case round =>
    obtain ⟨j, y, rfl, hj, hy, a0, a1, b0, b1, c0', c1', f0', f1', hz', HY, hbw'⟩ := hrel
    have hlt : ¬ w5.heap.size = w.heap.size := by omega
    clear c0 c1 f0 f1 hbw
    obtain ⟨y1, y2⟩ := hy
    by_cases hj0 : gk = 0
    · subst hj0
      have hend : rM = y ∧ rS = 0 := by have := HY.out; rw [norm] at this; exact ⟨congrArg Prod.fst this.symm, congrArg Prod.snd this.symm⟩
      obtain ⟨rfl, rfl⟩ := hend
      go_wp2_with fail
      refine bodyPost_ret (v := .tuple #[.agg #[.int .i64 rM, .int .i64 ((0 : Nat) : Int)], .int .i64 0]) (by simp [results, Tryz.results60, go_sem, *]) rfl ⟨rfl, ?_⟩
      go_grown
    · obtain ⟨i, rfl⟩ : ∃ i, gk = i + 1 := ⟨gk - 1, by omega⟩
      by_cases hm : y % 10 = 0
      · have ht : (y.tmod 10 == 0) = true := by rw [beq_iff_eq]; exact (tmod_zero y).2 hm
        obtain ⟨z, hq⟩ : ∃ z, y.tdiv 10 = z := ⟨_, rfl⟩
        have hqz : z = y / 10 := by rw [← hq, Int.tdiv_eq_ediv_of_dvd (Int.dvd_of_emod_eq_zero hm)]
        have HY2 : Hid (norm i z = (rM, rS)) := Lib.hid (by have := HY.out; rw [norm, if_pos hm, ← hqz] at this; exact this)
        have zb : -9223372036854775808 ≤ z ∧ z ≤ 9223372036854775807 := by omega
        obtain ⟨z1, z2⟩ := zb
        clear hqz hm hj0
        go_wp2_with fail
        go_roundg i
        case measure => omega
        case rel =>
          refine ⟨i, z, rfl, by omega, ⟨z1, z2⟩, by simp [go_sem, *], by simp [go_sem, *], by simp [go_sem, *], by simp [go_sem, *], by simp [go_sem, *], by simp [go_sem, *], by simp [go_sem, *], by simp [go_sem, *], by simpa using hz', HY2, ?_⟩
          go_grown
      · have ht : (y.tmod 10 == 0) = false := by rw [beq_eq_false_iff_ne]; exact fun h => hm ((tmod_zero y).1 h)
        have hend : rM = y ∧ rS = i + 1 := by have := HY.out; rw [norm, if_neg hm] at this; exact ⟨congrArg Prod.fst this.symm, congrArg Prod.snd this.symm⟩
        obtain ⟨rfl, rfl⟩ := hend
        clear hm hj0
        go_wp2_with fail
        refine bodyPost_ret (v := .tuple #[.agg #[.int .i64 rM, .int .i64 ((i : Int) + 1)], .int .i64 0]) (by simp [results, Tryz.results60, go_sem, *]) rfl ⟨rfl, ?_⟩
        go_grown
set_option maxRecDepth 100000 in
set_option maxHeartbeats 2000000 in
theorem parse_z_pt (s dB fB bB : ByteArray) (bl pt : Bool) (v e : Int) (w : World) (he : Env w)
    (HC : Hid (∀ w, Calls Tryz.prog 89 #[.string s, .string ⟨#[45]⟩] w fun e w' => e = .returned (.tuple #[.string dB, .bool bl]) ∧ w = w'))
    (HK : Hid (∀ w, Calls Tryz.prog 90 #[.string dB, .string ⟨#[46]⟩] w fun e w' => e = .returned (.tuple #[.string fB, .string bB, .bool pt]) ∧ ∃ n, w' = w.drewN n))
    (HR : Hid (∀ w, Env w → Calls Tryz.prog 91 #[.string fB] w fun e' w' => e' = .returned (.tuple #[.int .i64 v, .int .i64 e]) ∧ Below w.heap.size w w'))
    (h1 : (e == 21) = false) (HP : Hid (∀ w, Calls Tryz.prog 92 #[.string fB, .string ⟨#[45]⟩] w fun e w' => e = .returned (.bool false) ∧ w = w')) (tB : ByteArray) (h2 : pt = true) (h3 : ¬ bB.toList = []) (h4 : bB.toList.isEmpty = false) (h5 : bB.size ≤ 18) (HT : Hid (∀ w, Calls Tryz.prog 93 #[.string bB, .string ⟨#[48, 49, 50, 51, 52, 53, 54, 55, 56, 57]⟩] w fun e w' => e = .returned (.string tB) ∧ Below w.heap.size w w')) (h6 : tB.toList = []) (h7 : tB.toList.isEmpty = true) (hf : fB.size ≤ 140737488355328) (hb : bB.size ≤ 140737488355328) (aB : ByteArray) (HL : Hid (∀ w, Calls Tryz.prog 94 #[.string (fB ++ bB), .string ⟨#[48]⟩] w fun e w' => e = .returned (.string aB) ∧ w' = w)) (ha : aB.toList = []) (ha2 : aB.toList.isEmpty = true) :
    Calls Tryz.prog 60 #[.string s] w fun e w' => e = .returned (.tuple #[.agg #[.int .i64 0, .int .i64 0], .int .i64 0]) ∧ Below w.heap.size w w' := by
  subst h2
  go_enter Tryz.func60, Tryz.ntmps60
  go_wp2_with fail
  refine (HC.out _).mono ?_; rintro e w1 ⟨rfl, rfl⟩
  go_wp2_with fail
  refine (HK.out _).mono ?_; rintro e w1 ⟨rfl, nd, rfl⟩
  go_wp2_with fail
  refine ((HR.out _ (he.stays (below_drawN nd ((Below.refl _ _).alloc (Nat.le_refl _) _)))).mono ?_); rintro e w1 ⟨rfl, hb1⟩
  obtain ⟨c0, c1, f0, f1, hz, hbw⟩ := own2d hb1
  clear hb1
  go_wp2_with fail
  refine (HP.out _).mono ?_; rintro e w2 ⟨rfl, rfl⟩
  go_wp2_with fail
  refine (HT.out _).mono ?_; rintro e w2 ⟨rfl, hb2⟩
  have hk := keep1 hb2 ⟨c0, c1, f0, f1, hz, hbw⟩
  clear c0 c1 f0 f1 hz hbw hb2
  obtain ⟨c0, c1, f0, f1, hz, hbw⟩ := hk
  go_wp2_with fail
  refine (HL.out _).mono ?_; rintro e w4 ⟨rfl, rfl⟩
  go_wp2_with fail
  refine bodyPost_ret (v := .tuple #[.agg #[.int .i64 0, .int .i64 0], .int .i64 0]) (by simp [results, Tryz.results60, go_sem, *]) rfl ⟨rfl, ?_⟩
  go_grown
set_option maxRecDepth 100000 in
set_option maxHeartbeats 2000000 in
theorem parse_o_pt_false (s dB fB bB : ByteArray) (bl pt : Bool) (v e : Int) (w : World) (he : Env w)
    (HC : Hid (∀ w, Calls Tryz.prog 89 #[.string s, .string ⟨#[45]⟩] w fun e w' => e = .returned (.tuple #[.string dB, .bool bl]) ∧ w = w'))
    (HK : Hid (∀ w, Calls Tryz.prog 90 #[.string dB, .string ⟨#[46]⟩] w fun e w' => e = .returned (.tuple #[.string fB, .string bB, .bool pt]) ∧ ∃ n, w' = w.drewN n))
    (HR : Hid (∀ w, Env w → Calls Tryz.prog 91 #[.string fB] w fun e' w' => e' = .returned (.tuple #[.int .i64 v, .int .i64 e]) ∧ Below w.heap.size w w'))
    (h1 : (e == 21) = false) (HP : Hid (∀ w, Calls Tryz.prog 92 #[.string fB, .string ⟨#[45]⟩] w fun e w' => e = .returned (.bool false) ∧ w = w')) (tB : ByteArray) (h2 : pt = true) (h3 : ¬ bB.toList = []) (h4 : bB.toList.isEmpty = false) (h5 : bB.size ≤ 18) (HT : Hid (∀ w, Calls Tryz.prog 93 #[.string bB, .string ⟨#[48, 49, 50, 51, 52, 53, 54, 55, 56, 57]⟩] w fun e w' => e = .returned (.string tB) ∧ Below w.heap.size w w')) (h6 : tB.toList = []) (h7 : tB.toList.isEmpty = true) (hf : fB.size ≤ 140737488355328) (hb : bB.size ≤ 140737488355328) (aB : ByteArray) (HL : Hid (∀ w, Calls Tryz.prog 94 #[.string (fB ++ bB), .string ⟨#[48]⟩] w fun e w' => e = .returned (.string aB) ∧ w' = w)) (hbl : bl = false) (ha : ¬ aB.toList = []) (ha2 : aB.toList.isEmpty = false) (hab : aB.size ≤ 281474976710656) (n e2 : Int) (HR2 : Hid (∀ w, Env w → Calls Tryz.prog 91 #[.string aB] w fun e' w' => e' = .returned (.tuple #[.int .i64 n, .int .i64 e2]) ∧ Below w.heap.size w w')) (h9 : (e2 != 0) = true) :
    Calls Tryz.prog 60 #[.string s] w fun e w' => e = .returned (.tuple #[.agg #[.int .i64 0, .int .i64 0], .int .i64 140]) ∧ Below w.heap.size w w' := by
  subst h2
  subst hbl
  go_enter Tryz.func60, Tryz.ntmps60
  go_wp2_with fail
  refine (HC.out _).mono ?_; rintro e w1 ⟨rfl, rfl⟩
  go_wp2_with fail
  refine (HK.out _).mono ?_; rintro e w1 ⟨rfl, nd, rfl⟩
  go_wp2_with fail
  refine ((HR.out _ (he.stays (below_drawN nd ((Below.refl _ _).alloc (Nat.le_refl _) _)))).mono ?_); rintro e w1 ⟨rfl, hb1⟩
  obtain ⟨c0, c1, f0, f1, hz, hbw⟩ := own2d hb1
  clear hb1
  go_wp2_with fail
  refine (HP.out _).mono ?_; rintro e w2 ⟨rfl, rfl⟩
  go_wp2_with fail
  refine (HT.out _).mono ?_; rintro e w2 ⟨rfl, hb2⟩
  have hk := keep1 hb2 ⟨c0, c1, f0, f1, hz, hbw⟩
  clear c0 c1 f0 f1 hz hbw hb2
  obtain ⟨c0, c1, f0, f1, hz, hbw⟩ := hk
  go_wp2_with fail
  refine (HL.out _).mono ?_; rintro e w4 ⟨rfl, rfl⟩
  go_wp2_with fail
  refine ((HR2.out _ (he.stays (by assumption))).mono ?_); rintro e w5 ⟨rfl, hb5⟩
  have hk := keep1 hb5 ⟨c0, c1, f0, f1, hz, hbw⟩
  clear c0 c1 f0 f1 hz hbw hb5
  obtain ⟨c0, c1, f0, f1, hz, hbw⟩ := hk
  go_wp2_with fail
  refine bodyPost_ret (v := .tuple #[.agg #[.int .i64 0, .int .i64 0], .int .i64 140]) (by simp [results, Tryz.results60, go_sem, *]) rfl ⟨rfl, ?_⟩
  go_grown
set_option maxRecDepth 100000 in
set_option maxHeartbeats 2000000 in
theorem parse_m_pt_false (s dB fB bB : ByteArray) (bl pt : Bool) (v e : Int) (w : World) (he : Env w)
    (HC : Hid (∀ w, Calls Tryz.prog 89 #[.string s, .string ⟨#[45]⟩] w fun e w' => e = .returned (.tuple #[.string dB, .bool bl]) ∧ w = w'))
    (HK : Hid (∀ w, Calls Tryz.prog 90 #[.string dB, .string ⟨#[46]⟩] w fun e w' => e = .returned (.tuple #[.string fB, .string bB, .bool pt]) ∧ ∃ n, w' = w.drewN n))
    (HR : Hid (∀ w, Env w → Calls Tryz.prog 91 #[.string fB] w fun e' w' => e' = .returned (.tuple #[.int .i64 v, .int .i64 e]) ∧ Below w.heap.size w w'))
    (h1 : (e == 21) = false) (HP : Hid (∀ w, Calls Tryz.prog 92 #[.string fB, .string ⟨#[45]⟩] w fun e w' => e = .returned (.bool false) ∧ w = w')) (tB : ByteArray) (h2 : pt = true) (h3 : ¬ bB.toList = []) (h4 : bB.toList.isEmpty = false) (h5 : bB.size ≤ 18) (HT : Hid (∀ w, Calls Tryz.prog 93 #[.string bB, .string ⟨#[48, 49, 50, 51, 52, 53, 54, 55, 56, 57]⟩] w fun e w' => e = .returned (.string tB) ∧ Below w.heap.size w w')) (h6 : tB.toList = []) (h7 : tB.toList.isEmpty = true) (hf : fB.size ≤ 140737488355328) (hb : bB.size ≤ 140737488355328) (aB : ByteArray) (HL : Hid (∀ w, Calls Tryz.prog 94 #[.string (fB ++ bB), .string ⟨#[48]⟩] w fun e w' => e = .returned (.string aB) ∧ w' = w)) (hbl : bl = false) (ha : ¬ aB.toList = []) (ha2 : aB.toList.isEmpty = false) (hab : aB.size ≤ 281474976710656) (n e2 : Int) (HR2 : Hid (∀ w, Env w → Calls Tryz.prog 91 #[.string aB] w fun e' w' => e' = .returned (.tuple #[.int .i64 n, .int .i64 e2]) ∧ Below w.heap.size w w')) (h9 : e2 = 0) (hn : R n) (h8 : bB.size ≤ 18) (rM : Int) (rS : Nat) (HN : Hid (norm bB.size n = (rM, rS))) :
    Calls Tryz.prog 60 #[.string s] w fun e w' => e = .returned (.tuple #[.agg #[.int .i64 rM, .int .i64 (rS : Int)], .int .i64 0]) ∧ Below w.heap.size w w' := by
  subst h2
  subst hbl
  subst h9
  go_enter Tryz.func60, Tryz.ntmps60
  go_wp2_with fail
  refine (HC.out _).mono ?_; rintro e w1 ⟨rfl, rfl⟩
  go_wp2_with fail
  refine (HK.out _).mono ?_; rintro e w1 ⟨rfl, nd, rfl⟩
  go_wp2_with fail
  refine ((HR.out _ (he.stays (below_drawN nd ((Below.refl _ _).alloc (Nat.le_refl _) _)))).mono ?_); rintro e w1 ⟨rfl, hb1⟩
  obtain ⟨c0, c1, f0, f1, hz, hbw⟩ := own2d hb1
  clear hb1
  go_wp2_with fail
  refine (HP.out _).mono ?_; rintro e w2 ⟨rfl, rfl⟩
  go_wp2_with fail
  refine (HT.out _).mono ?_; rintro e w2 ⟨rfl, hb2⟩
  have hk := keep1 hb2 ⟨c0, c1, f0, f1, hz, hbw⟩
  clear c0 c1 f0 f1 hz hbw hb2
  obtain ⟨c0, c1, f0, f1, hz, hbw⟩ := hk
  go_wp2_with fail
  refine (HL.out _).mono ?_; rintro e w4 ⟨rfl, rfl⟩
  go_wp2_with fail
  refine ((HR2.out _ (he.stays (by assumption))).mono ?_); rintro e w5 ⟨rfl, hb5⟩
  have hk := keep1 hb5 ⟨c0, c1, f0, f1, hz, hbw⟩
  clear c0 c1 f0 f1 hz hbw hb5
  obtain ⟨c0, c1, f0, f1, hz, hbw⟩ := hk
  go_wp2_with fail
  go_loopg [84] bB.size (fun k u wr => ∃ (j : Nat) (y : Int), k = j ∧ j ≤ 18 ∧ R y ∧ wr.cell? ⟨w5.heap.size, 0, none⟩ = some (.int .i64 y) ∧ wr.cell? ⟨w5.heap.size, 1, none⟩ = some (.int .i64 j) ∧ wr.frozen? ⟨w5.heap.size, 0, none⟩ = false ∧ wr.frozen? ⟨w5.heap.size, 1, none⟩ = false ∧ wr.cell? ⟨w.heap.size, 0, none⟩ = some (.int .i64 0) ∧ wr.cell? ⟨w.heap.size, 1, none⟩ = some (.int .i64 0) ∧ wr.frozen? ⟨w.heap.size, 0, none⟩ = false ∧ wr.frozen? ⟨w.heap.size, 1, none⟩ = false ∧ w5.heap.size < wr.heap.size ∧ Hid (norm j y = (rM, rS)) ∧ Below w.heap.size w wr)
  case atStart =>
    refine ⟨bB.size, n, rfl, h8, hn, by simp [go_sem], by simp [go_sem], by simp [go_sem], by simp [go_sem], by simp [go_sem, *], by simp [go_sem, *], by simp [go_sem, *], by simp [go_sem, *], by simp, HN, ?_⟩
    go_grown
  case round =>
    obtain ⟨j, y, rfl, hj, hy, a0, a1, b0, b1, c0', c1', f0', f1', hz', HY, hbw'⟩ := hrel
    have hlt : ¬ w5.heap.size = w.heap.size := by omega
    clear c0 c1 f0 f1 hbw
    obtain ⟨y1, y2⟩ := hy
    by_cases hj0 : gk = 0
    · subst hj0
      have hend : rM = y ∧ rS = 0 := by have := HY.out; rw [norm] at this; exact ⟨congrArg Prod.fst this.symm, congrArg Prod.snd this.symm⟩
      obtain ⟨rfl, rfl⟩ := hend
      go_wp2_with fail
      refine bodyPost_ret (v := .tuple #[.agg #[.int .i64 rM, .int .i64 ((0 : Nat) : Int)], .int .i64 0]) (by simp [results, Tryz.results60, go_sem, *]) rfl ⟨rfl, ?_⟩
      go_grown
    · obtain ⟨i, rfl⟩ : ∃ i, gk = i + 1 := ⟨gk - 1, by omega⟩
      by_cases hm : y % 10 = 0
      · have ht : (y.tmod 10 == 0) = true := by rw [beq_iff_eq]; exact (tmod_zero y).2 hm
        obtain ⟨z, hq⟩ : ∃ z, y.tdiv 10 = z := ⟨_, rfl⟩
        have hqz : z = y / 10 := by rw [← hq, Int.tdiv_eq_ediv_of_dvd (Int.dvd_of_emod_eq_zero hm)]
        have HY2 : Hid (norm i z = (rM, rS)) := Lib.hid (by have := HY.out; rw [norm, if_pos hm, ← hqz] at this; exact this)
        have zb : -9223372036854775808 ≤ z ∧ z ≤ 9223372036854775807 := by omega
        obtain ⟨z1, z2⟩ := zb
        clear hqz hm hj0
        go_wp2_with fail
        go_roundg i
        case measure => omega
        case rel =>
          refine ⟨i, z, rfl, by omega, ⟨z1, z2⟩, by simp [go_sem, *], by simp [go_sem, *], by simp [go_sem, *], by simp [go_sem, *], by simp [go_sem, *], by simp [go_sem, *], by simp [go_sem, *], by simp [go_sem, *], by simpa using hz', HY2, ?_⟩
          go_grown
      · have ht : (y.tmod 10 == 0) = false := by rw [beq_eq_false_iff_ne]; exact fun h => hm ((tmod_zero y).1 h)
        have hend : rM = y ∧ rS = i + 1 := by have := HY.out; rw [norm, if_neg hm] at this; exact ⟨congrArg Prod.fst this.symm, congrArg Prod.snd this.symm⟩
        obtain ⟨rfl, rfl⟩ := hend
        clear hm hj0
        go_wp2_with fail
        refine bodyPost_ret (v := .tuple #[.agg #[.int .i64 rM, .int .i64 ((i : Int) + 1)], .int .i64 0]) (by simp [results, Tryz.results60, go_sem, *]) rfl ⟨rfl, ?_⟩
        go_grown
set_option maxRecDepth 100000 in
set_option maxHeartbeats 2000000 in
theorem parse_o_pt_true (s dB fB bB : ByteArray) (bl pt : Bool) (v e : Int) (w : World) (he : Env w)
    (HC : Hid (∀ w, Calls Tryz.prog 89 #[.string s, .string ⟨#[45]⟩] w fun e w' => e = .returned (.tuple #[.string dB, .bool bl]) ∧ w = w'))
    (HK : Hid (∀ w, Calls Tryz.prog 90 #[.string dB, .string ⟨#[46]⟩] w fun e w' => e = .returned (.tuple #[.string fB, .string bB, .bool pt]) ∧ ∃ n, w' = w.drewN n))
    (HR : Hid (∀ w, Env w → Calls Tryz.prog 91 #[.string fB] w fun e' w' => e' = .returned (.tuple #[.int .i64 v, .int .i64 e]) ∧ Below w.heap.size w w'))
    (h1 : (e == 21) = false) (HP : Hid (∀ w, Calls Tryz.prog 92 #[.string fB, .string ⟨#[45]⟩] w fun e w' => e = .returned (.bool false) ∧ w = w')) (tB : ByteArray) (h2 : pt = true) (h3 : ¬ bB.toList = []) (h4 : bB.toList.isEmpty = false) (h5 : bB.size ≤ 18) (HT : Hid (∀ w, Calls Tryz.prog 93 #[.string bB, .string ⟨#[48, 49, 50, 51, 52, 53, 54, 55, 56, 57]⟩] w fun e w' => e = .returned (.string tB) ∧ Below w.heap.size w w')) (h6 : tB.toList = []) (h7 : tB.toList.isEmpty = true) (hf : fB.size ≤ 140737488355328) (hb : bB.size ≤ 140737488355328) (aB : ByteArray) (HL : Hid (∀ w, Calls Tryz.prog 94 #[.string (fB ++ bB), .string ⟨#[48]⟩] w fun e w' => e = .returned (.string aB) ∧ w' = w)) (hbl : bl = true) (ha : ¬ aB.toList = []) (ha2 : aB.toList.isEmpty = false) (hab : aB.size ≤ 281474976710656) (n e2 : Int) (HR2 : Hid (∀ w, Env w → Calls Tryz.prog 91 #[.string (⟨#[45]⟩ ++ aB)] w fun e' w' => e' = .returned (.tuple #[.int .i64 n, .int .i64 e2]) ∧ Below w.heap.size w w')) (h9 : (e2 != 0) = true) :
    Calls Tryz.prog 60 #[.string s] w fun e w' => e = .returned (.tuple #[.agg #[.int .i64 0, .int .i64 0], .int .i64 140]) ∧ Below w.heap.size w w' := by
  subst h2
  subst hbl
  go_enter Tryz.func60, Tryz.ntmps60
  go_wp2_with fail
  refine (HC.out _).mono ?_; rintro e w1 ⟨rfl, rfl⟩
  go_wp2_with fail
  refine (HK.out _).mono ?_; rintro e w1 ⟨rfl, nd, rfl⟩
  go_wp2_with fail
  refine ((HR.out _ (he.stays (below_drawN nd ((Below.refl _ _).alloc (Nat.le_refl _) _)))).mono ?_); rintro e w1 ⟨rfl, hb1⟩
  obtain ⟨c0, c1, f0, f1, hz, hbw⟩ := own2d hb1
  clear hb1
  go_wp2_with fail
  refine (HP.out _).mono ?_; rintro e w2 ⟨rfl, rfl⟩
  go_wp2_with fail
  refine (HT.out _).mono ?_; rintro e w2 ⟨rfl, hb2⟩
  have hk := keep1 hb2 ⟨c0, c1, f0, f1, hz, hbw⟩
  clear c0 c1 f0 f1 hz hbw hb2
  obtain ⟨c0, c1, f0, f1, hz, hbw⟩ := hk
  go_wp2_with fail
  refine (HL.out _).mono ?_; rintro e w4 ⟨rfl, rfl⟩
  go_wp2_with fail
  refine ((HR2.out _ (he.stays (by assumption))).mono ?_); rintro e w5 ⟨rfl, hb5⟩
  have hk := keep1 hb5 ⟨c0, c1, f0, f1, hz, hbw⟩
  clear c0 c1 f0 f1 hz hbw hb5
  obtain ⟨c0, c1, f0, f1, hz, hbw⟩ := hk
  go_wp2_with fail
  refine bodyPost_ret (v := .tuple #[.agg #[.int .i64 0, .int .i64 0], .int .i64 140]) (by simp [results, Tryz.results60, go_sem, *]) rfl ⟨rfl, ?_⟩
  go_grown
set_option maxRecDepth 100000 in
set_option maxHeartbeats 2000000 in
theorem parse_m_pt_true (s dB fB bB : ByteArray) (bl pt : Bool) (v e : Int) (w : World) (he : Env w)
    (HC : Hid (∀ w, Calls Tryz.prog 89 #[.string s, .string ⟨#[45]⟩] w fun e w' => e = .returned (.tuple #[.string dB, .bool bl]) ∧ w = w'))
    (HK : Hid (∀ w, Calls Tryz.prog 90 #[.string dB, .string ⟨#[46]⟩] w fun e w' => e = .returned (.tuple #[.string fB, .string bB, .bool pt]) ∧ ∃ n, w' = w.drewN n))
    (HR : Hid (∀ w, Env w → Calls Tryz.prog 91 #[.string fB] w fun e' w' => e' = .returned (.tuple #[.int .i64 v, .int .i64 e]) ∧ Below w.heap.size w w'))
    (h1 : (e == 21) = false) (HP : Hid (∀ w, Calls Tryz.prog 92 #[.string fB, .string ⟨#[45]⟩] w fun e w' => e = .returned (.bool false) ∧ w = w')) (tB : ByteArray) (h2 : pt = true) (h3 : ¬ bB.toList = []) (h4 : bB.toList.isEmpty = false) (h5 : bB.size ≤ 18) (HT : Hid (∀ w, Calls Tryz.prog 93 #[.string bB, .string ⟨#[48, 49, 50, 51, 52, 53, 54, 55, 56, 57]⟩] w fun e w' => e = .returned (.string tB) ∧ Below w.heap.size w w')) (h6 : tB.toList = []) (h7 : tB.toList.isEmpty = true) (hf : fB.size ≤ 140737488355328) (hb : bB.size ≤ 140737488355328) (aB : ByteArray) (HL : Hid (∀ w, Calls Tryz.prog 94 #[.string (fB ++ bB), .string ⟨#[48]⟩] w fun e w' => e = .returned (.string aB) ∧ w' = w)) (hbl : bl = true) (ha : ¬ aB.toList = []) (ha2 : aB.toList.isEmpty = false) (hab : aB.size ≤ 281474976710656) (n e2 : Int) (HR2 : Hid (∀ w, Env w → Calls Tryz.prog 91 #[.string (⟨#[45]⟩ ++ aB)] w fun e' w' => e' = .returned (.tuple #[.int .i64 n, .int .i64 e2]) ∧ Below w.heap.size w w')) (h9 : e2 = 0) (hn : R n) (h8 : bB.size ≤ 18) (rM : Int) (rS : Nat) (HN : Hid (norm bB.size n = (rM, rS))) :
    Calls Tryz.prog 60 #[.string s] w fun e w' => e = .returned (.tuple #[.agg #[.int .i64 rM, .int .i64 (rS : Int)], .int .i64 0]) ∧ Below w.heap.size w w' := by
  subst h2
  subst hbl
  subst h9
  go_enter Tryz.func60, Tryz.ntmps60
  go_wp2_with fail
  refine (HC.out _).mono ?_; rintro e w1 ⟨rfl, rfl⟩
  go_wp2_with fail
  refine (HK.out _).mono ?_; rintro e w1 ⟨rfl, nd, rfl⟩
  go_wp2_with fail
  refine ((HR.out _ (he.stays (below_drawN nd ((Below.refl _ _).alloc (Nat.le_refl _) _)))).mono ?_); rintro e w1 ⟨rfl, hb1⟩
  obtain ⟨c0, c1, f0, f1, hz, hbw⟩ := own2d hb1
  clear hb1
  go_wp2_with fail
  refine (HP.out _).mono ?_; rintro e w2 ⟨rfl, rfl⟩
  go_wp2_with fail
  refine (HT.out _).mono ?_; rintro e w2 ⟨rfl, hb2⟩
  have hk := keep1 hb2 ⟨c0, c1, f0, f1, hz, hbw⟩
  clear c0 c1 f0 f1 hz hbw hb2
  obtain ⟨c0, c1, f0, f1, hz, hbw⟩ := hk
  go_wp2_with fail
  refine (HL.out _).mono ?_; rintro e w4 ⟨rfl, rfl⟩
  go_wp2_with fail
  refine ((HR2.out _ (he.stays (by assumption))).mono ?_); rintro e w5 ⟨rfl, hb5⟩
  have hk := keep1 hb5 ⟨c0, c1, f0, f1, hz, hbw⟩
  clear c0 c1 f0 f1 hz hbw hb5
  obtain ⟨c0, c1, f0, f1, hz, hbw⟩ := hk
  go_wp2_with fail
  go_loopg [84] bB.size (fun k u wr => ∃ (j : Nat) (y : Int), k = j ∧ j ≤ 18 ∧ R y ∧ wr.cell? ⟨w5.heap.size, 0, none⟩ = some (.int .i64 y) ∧ wr.cell? ⟨w5.heap.size, 1, none⟩ = some (.int .i64 j) ∧ wr.frozen? ⟨w5.heap.size, 0, none⟩ = false ∧ wr.frozen? ⟨w5.heap.size, 1, none⟩ = false ∧ wr.cell? ⟨w.heap.size, 0, none⟩ = some (.int .i64 0) ∧ wr.cell? ⟨w.heap.size, 1, none⟩ = some (.int .i64 0) ∧ wr.frozen? ⟨w.heap.size, 0, none⟩ = false ∧ wr.frozen? ⟨w.heap.size, 1, none⟩ = false ∧ w5.heap.size < wr.heap.size ∧ Hid (norm j y = (rM, rS)) ∧ Below w.heap.size w wr)
  case atStart =>
    refine ⟨bB.size, n, rfl, h8, hn, by simp [go_sem], by simp [go_sem], by simp [go_sem], by simp [go_sem], by simp [go_sem, *], by simp [go_sem, *], by simp [go_sem, *], by simp [go_sem, *], by simp, HN, ?_⟩
    go_grown
  case round =>
    obtain ⟨j, y, rfl, hj, hy, a0, a1, b0, b1, c0', c1', f0', f1', hz', HY, hbw'⟩ := hrel
    have hlt : ¬ w5.heap.size = w.heap.size := by omega
    clear c0 c1 f0 f1 hbw
    obtain ⟨y1, y2⟩ := hy
    by_cases hj0 : gk = 0
    · subst hj0
      have hend : rM = y ∧ rS = 0 := by have := HY.out; rw [norm] at this; exact ⟨congrArg Prod.fst this.symm, congrArg Prod.snd this.symm⟩
      obtain ⟨rfl, rfl⟩ := hend
      go_wp2_with fail
      refine bodyPost_ret (v := .tuple #[.agg #[.int .i64 rM, .int .i64 ((0 : Nat) : Int)], .int .i64 0]) (by simp [results, Tryz.results60, go_sem, *]) rfl ⟨rfl, ?_⟩
      go_grown
    · obtain ⟨i, rfl⟩ : ∃ i, gk = i + 1 := ⟨gk - 1, by omega⟩
      by_cases hm : y % 10 = 0
      · have ht : (y.tmod 10 == 0) = true := by rw [beq_iff_eq]; exact (tmod_zero y).2 hm
        obtain ⟨z, hq⟩ : ∃ z, y.tdiv 10 = z := ⟨_, rfl⟩
        have hqz : z = y / 10 := by rw [← hq, Int.tdiv_eq_ediv_of_dvd (Int.dvd_of_emod_eq_zero hm)]
        have HY2 : Hid (norm i z = (rM, rS)) := Lib.hid (by have := HY.out; rw [norm, if_pos hm, ← hqz] at this; exact this)
        have zb : -9223372036854775808 ≤ z ∧ z ≤ 9223372036854775807 := by omega
        obtain ⟨z1, z2⟩ := zb
        clear hqz hm hj0
        go_wp2_with fail
        go_roundg i
        case measure => omega
        case rel =>
          refine ⟨i, z, rfl, by omega, ⟨z1, z2⟩, by simp [go_sem, *], by simp [go_sem, *], by simp [go_sem, *], by simp [go_sem, *], by simp [go_sem, *], by simp [go_sem, *], by simp [go_sem, *], by simp [go_sem, *], by simpa using hz', HY2, ?_⟩
          go_grown
      · have ht : (y.tmod 10 == 0) = false := by rw [beq_eq_false_iff_ne]; exact fun h => hm ((tmod_zero y).1 h)
        have hend : rM = y ∧ rS = i + 1 := by have := HY.out; rw [norm, if_neg hm] at this; exact ⟨congrArg Prod.fst this.symm, congrArg Prod.snd this.symm⟩
        obtain ⟨rfl, rfl⟩ := hend
        clear hm hj0
        go_wp2_with fail
        refine bodyPost_ret (v := .tuple #[.agg #[.int .i64 rM, .int .i64 ((i : Int) + 1)], .int .i64 0]) (by simp [results, Tryz.results60, go_sem, *]) rfl ⟨rfl, ?_⟩
        go_grown
end Go.Proofs.YtpkkejcndmcbiaaGreatDoor
