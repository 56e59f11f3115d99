/- Walks and plain laws of this proof, joined from smaller texts (3). -/
import Derived.Deep.LoopGhost
import Derived.Deep.RegionWith
import Derived.Test.YtjhgiojmlkeccaaGreatDoorP2
set_option linter.unusedSimpArgs false
set_option linter.unusedVariables false
namespace Go.Proofs.YtjhgiojmlkeccaaGreatDoor
open Go.RowKit
theorem own2d {w w1 : World} {x y : Value} {t : TypeId} {n : Nat} (hb : Below ((w.alloc (.cells #[x, y] t)).drewN n).heap.size ((w.alloc (.cells #[x, y] t)).drewN n) w1) :
    w1.cell? ⟨w.heap.size, 0, none⟩ = some x ∧ w1.cell? ⟨w.heap.size, 1, none⟩ = some y ∧ w1.frozen? ⟨w.heap.size, 0, none⟩ = false ∧ w1.frozen? ⟨w.heap.size, 1, none⟩ = false ∧ w.heap.size < w1.heap.size ∧ Below w.heap.size w w1 :=
  own2 ((below_drewN' (w.alloc (.cells #[x, y] t)).heap.size (w.alloc (.cells #[x, y] t)) n).trans hb)
/-- One block of two cells, its own, behind a call that only makes blocks. -/
theorem keep1 {w W w1 : World} {b : Nat} {x y : Value} (hb : Below W.heap.size W w1) (h : W.cell? ⟨b, 0, none⟩ = some x ∧ W.cell? ⟨b, 1, none⟩ = some y ∧ W.frozen? ⟨b, 0, none⟩ = false ∧ W.frozen? ⟨b, 1, none⟩ = false ∧ b < W.heap.size ∧ Below w.heap.size w W) :
    w1.cell? ⟨b, 0, none⟩ = some x ∧ w1.cell? ⟨b, 1, none⟩ = some y ∧ w1.frozen? ⟨b, 0, none⟩ = false ∧ w1.frozen? ⟨b, 1, none⟩ = false ∧ b < w1.heap.size ∧ Below w.heap.size w w1 := by
  obtain ⟨h0, h1, h2, h3, h4, h5⟩ := h
  obtain ⟨cc, ff⟩ := bcell hb
  exact ⟨(cc _ _ h4).trans h0, (cc _ _ h4).trans h1, (ff _ _ h4).trans h2, (ff _ _ h4).trans h3, Nat.lt_of_lt_of_le h4 hb.size, h5.trans (hb.mono h5.size)⟩
set_option maxRecDepth 100000 in
set_option maxHeartbeats 2000000 in
theorem parse_e1 (s dB fB bB : ByteArray) (bl pt : Bool) (v e : Int) (w : World) (he : Env w)
    (HC : Hid (∀ w, Calls Tryz.prog 84 #[.string s, .string ⟨#[45]⟩] w fun e w' => e = .returned (.tuple #[.string dB, .bool bl]) ∧ w = w'))
    (HK : Hid (∀ w, Calls Tryz.prog 85 #[.string dB, .string ⟨#[46]⟩] w fun e w' => e = .returned (.tuple #[.string fB, .string bB, .bool pt]) ∧ ∃ n, w' = w.drewN n))
    (HR : Hid (∀ w, Env w → Calls Tryz.prog 86 #[.string fB] w fun e' w' => e' = .returned (.tuple #[.int .i64 v, .int .i64 e]) ∧ Below w.heap.size w w'))
    (h1 : (e == 21) = true) :
    Calls Tryz.prog 55 #[.string s] w fun e w' => e = .returned (.tuple #[.agg #[.int .i64 0, .int .i64 0], .int .i64 140]) ∧ Below w.heap.size w w' := by
  go_enter Tryz.func55, Tryz.ntmps55
  go_wp2_with fail
  refine (HC.out _).mono ?_; rintro e w1 ⟨rfl, rfl⟩
  go_wp2_with fail
  refine (HK.out _).mono ?_; rintro e w1 ⟨rfl, nd, rfl⟩
  go_wp2_with fail
  refine ((HR.out _ (he.stays (below_drawN nd ((Below.refl _ _).alloc (Nat.le_refl _) _)))).mono ?_); rintro e w1 ⟨rfl, hb1⟩
  obtain ⟨c0, c1, f0, f1, hz, hbw⟩ := own2d hb1
  clear hb1
  go_wp2_with fail
  refine bodyPost_ret (v := .tuple #[.agg #[.int .i64 0, .int .i64 0], .int .i64 140]) (by simp [results, Tryz.results55, go_sem, *]) rfl ⟨rfl, ?_⟩
  go_grown
set_option maxRecDepth 100000 in
set_option maxHeartbeats 2000000 in
theorem parse_e2 (s dB fB bB : ByteArray) (bl pt : Bool) (v e : Int) (w : World) (he : Env w)
    (HC : Hid (∀ w, Calls Tryz.prog 84 #[.string s, .string ⟨#[45]⟩] w fun e w' => e = .returned (.tuple #[.string dB, .bool bl]) ∧ w = w'))
    (HK : Hid (∀ w, Calls Tryz.prog 85 #[.string dB, .string ⟨#[46]⟩] w fun e w' => e = .returned (.tuple #[.string fB, .string bB, .bool pt]) ∧ ∃ n, w' = w.drewN n))
    (HR : Hid (∀ w, Env w → Calls Tryz.prog 86 #[.string fB] w fun e' w' => e' = .returned (.tuple #[.int .i64 v, .int .i64 e]) ∧ Below w.heap.size w w'))
    (h1 : (e == 21) = false) (HP : Hid (∀ w, Calls Tryz.prog 87 #[.string fB, .string ⟨#[45]⟩] w fun e w' => e = .returned (.bool true) ∧ w = w')) :
    Calls Tryz.prog 55 #[.string s] w fun e w' => e = .returned (.tuple #[.agg #[.int .i64 0, .int .i64 0], .int .i64 140]) ∧ Below w.heap.size w w' := by
  go_enter Tryz.func55, Tryz.ntmps55
  go_wp2_with fail
  refine (HC.out _).mono ?_; rintro e w1 ⟨rfl, rfl⟩
  go_wp2_with fail
  refine (HK.out _).mono ?_; rintro e w1 ⟨rfl, nd, rfl⟩
  go_wp2_with fail
  refine ((HR.out _ (he.stays (below_drawN nd ((Below.refl _ _).alloc (Nat.le_refl _) _)))).mono ?_); rintro e w1 ⟨rfl, hb1⟩
  obtain ⟨c0, c1, f0, f1, hz, hbw⟩ := own2d hb1
  clear hb1
  go_wp2_with fail
  refine (HP.out _).mono ?_; rintro e w2 ⟨rfl, rfl⟩
  go_wp2_with fail
  refine bodyPost_ret (v := .tuple #[.agg #[.int .i64 0, .int .i64 0], .int .i64 140]) (by simp [results, Tryz.results55, go_sem, *]) rfl ⟨rfl, ?_⟩
  go_grown
set_option maxRecDepth 100000 in
set_option maxHeartbeats 2000000 in
theorem parse_e3 (s dB fB bB : ByteArray) (bl pt : Bool) (v e : Int) (w : World) (he : Env w)
    (HC : Hid (∀ w, Calls Tryz.prog 84 #[.string s, .string ⟨#[45]⟩] w fun e w' => e = .returned (.tuple #[.string dB, .bool bl]) ∧ w = w'))
    (HK : Hid (∀ w, Calls Tryz.prog 85 #[.string dB, .string ⟨#[46]⟩] w fun e w' => e = .returned (.tuple #[.string fB, .string bB, .bool pt]) ∧ ∃ n, w' = w.drewN n))
    (HR : Hid (∀ w, Env w → Calls Tryz.prog 86 #[.string fB] w fun e' w' => e' = .returned (.tuple #[.int .i64 v, .int .i64 e]) ∧ Below w.heap.size w w'))
    (h1 : (e == 21) = false) (HP : Hid (∀ w, Calls Tryz.prog 87 #[.string fB, .string ⟨#[45]⟩] w fun e w' => e = .returned (.bool false) ∧ w = w')) (h2 : pt = true) (h3 : bB.toList = []) (h4 : bB.toList.isEmpty = true) :
    Calls Tryz.prog 55 #[.string s] w fun e w' => e = .returned (.tuple #[.agg #[.int .i64 0, .int .i64 0], .int .i64 140]) ∧ Below w.heap.size w w' := by
  subst h2
  go_enter Tryz.func55, Tryz.ntmps55
  go_wp2_with fail
  refine (HC.out _).mono ?_; rintro e w1 ⟨rfl, rfl⟩
  go_wp2_with fail
  refine (HK.out _).mono ?_; rintro e w1 ⟨rfl, nd, rfl⟩
  go_wp2_with fail
  refine ((HR.out _ (he.stays (below_drawN nd ((Below.refl _ _).alloc (Nat.le_refl _) _)))).mono ?_); rintro e w1 ⟨rfl, hb1⟩
  obtain ⟨c0, c1, f0, f1, hz, hbw⟩ := own2d hb1
  clear hb1
  go_wp2_with fail
  refine (HP.out _).mono ?_; rintro e w2 ⟨rfl, rfl⟩
  go_wp2_with fail
  refine bodyPost_ret (v := .tuple #[.agg #[.int .i64 0, .int .i64 0], .int .i64 140]) (by simp [results, Tryz.results55, go_sem, *]) rfl ⟨rfl, ?_⟩
  go_grown
set_option maxRecDepth 100000 in
set_option maxHeartbeats 2000000 in
theorem parse_e4 (s dB fB bB : ByteArray) (bl pt : Bool) (v e : Int) (w : World) (he : Env w)
    (HC : Hid (∀ w, Calls Tryz.prog 84 #[.string s, .string ⟨#[45]⟩] w fun e w' => e = .returned (.tuple #[.string dB, .bool bl]) ∧ w = w'))
    (HK : Hid (∀ w, Calls Tryz.prog 85 #[.string dB, .string ⟨#[46]⟩] w fun e w' => e = .returned (.tuple #[.string fB, .string bB, .bool pt]) ∧ ∃ n, w' = w.drewN n))
    (HR : Hid (∀ w, Env w → Calls Tryz.prog 86 #[.string fB] w fun e' w' => e' = .returned (.tuple #[.int .i64 v, .int .i64 e]) ∧ Below w.heap.size w w'))
    (h1 : (e == 21) = false) (HP : Hid (∀ w, Calls Tryz.prog 87 #[.string fB, .string ⟨#[45]⟩] w fun e w' => e = .returned (.bool false) ∧ w = w')) (h2 : pt = true) (h3 : ¬ bB.toList = []) (h4 : bB.toList.isEmpty = false) (h5 : 18 < bB.size) (h6 : bB.size ≤ 281474976710656) :
    Calls Tryz.prog 55 #[.string s] w fun e w' => e = .returned (.tuple #[.agg #[.int .i64 0, .int .i64 0], .int .i64 140]) ∧ Below w.heap.size w w' := by
  subst h2
  go_enter Tryz.func55, Tryz.ntmps55
  go_wp2_with fail
  refine (HC.out _).mono ?_; rintro e w1 ⟨rfl, rfl⟩
  go_wp2_with fail
  refine (HK.out _).mono ?_; rintro e w1 ⟨rfl, nd, rfl⟩
  go_wp2_with fail
  refine ((HR.out _ (he.stays (below_drawN nd ((Below.refl _ _).alloc (Nat.le_refl _) _)))).mono ?_); rintro e w1 ⟨rfl, hb1⟩
  obtain ⟨c0, c1, f0, f1, hz, hbw⟩ := own2d hb1
  clear hb1
  go_wp2_with fail
  refine (HP.out _).mono ?_; rintro e w2 ⟨rfl, rfl⟩
  go_wp2_with fail
  refine bodyPost_ret (v := .tuple #[.agg #[.int .i64 0, .int .i64 0], .int .i64 140]) (by simp [results, Tryz.results55, go_sem, *]) rfl ⟨rfl, ?_⟩
  go_grown
set_option maxRecDepth 100000 in
set_option maxHeartbeats 2000000 in
theorem parse_e5 (s dB fB bB : ByteArray) (bl pt : Bool) (v e : Int) (w : World) (he : Env w)
    (HC : Hid (∀ w, Calls Tryz.prog 84 #[.string s, .string ⟨#[45]⟩] w fun e w' => e = .returned (.tuple #[.string dB, .bool bl]) ∧ w = w'))
    (HK : Hid (∀ w, Calls Tryz.prog 85 #[.string dB, .string ⟨#[46]⟩] w fun e w' => e = .returned (.tuple #[.string fB, .string bB, .bool pt]) ∧ ∃ n, w' = w.drewN n))
    (HR : Hid (∀ w, Env w → Calls Tryz.prog 86 #[.string fB] w fun e' w' => e' = .returned (.tuple #[.int .i64 v, .int .i64 e]) ∧ Below w.heap.size w w'))
    (tB : ByteArray) (h1 : (e == 21) = false) (HP : Hid (∀ w, Calls Tryz.prog 87 #[.string fB, .string ⟨#[45]⟩] w fun e w' => e = .returned (.bool false) ∧ w = w')) (h2 : pt = true) (h3 : ¬ bB.toList = []) (h4 : bB.toList.isEmpty = false) (h5 : bB.size ≤ 18) (HT : Hid (∀ w, Calls Tryz.prog 88 #[.string bB, .string ⟨#[48, 49, 50, 51, 52, 53, 54, 55, 56, 57]⟩] w fun e w' => e = .returned (.string tB) ∧ Below w.heap.size w w')) (h6 : ¬ tB.toList = []) (h7 : tB.toList.isEmpty = false) :
    Calls Tryz.prog 55 #[.string s] w fun e w' => e = .returned (.tuple #[.agg #[.int .i64 0, .int .i64 0], .int .i64 140]) ∧ Below w.heap.size w w' := by
  subst h2
  go_enter Tryz.func55, Tryz.ntmps55
  go_wp2_with fail
  refine (HC.out _).mono ?_; rintro e w1 ⟨rfl, rfl⟩
  go_wp2_with fail
  refine (HK.out _).mono ?_; rintro e w1 ⟨rfl, nd, rfl⟩
  go_wp2_with fail
  refine ((HR.out _ (he.stays (below_drawN nd ((Below.refl _ _).alloc (Nat.le_refl _) _)))).mono ?_); rintro e w1 ⟨rfl, hb1⟩
  obtain ⟨c0, c1, f0, f1, hz, hbw⟩ := own2d hb1
  clear hb1
  go_wp2_with fail
  refine (HP.out _).mono ?_; rintro e w2 ⟨rfl, rfl⟩
  go_wp2_with fail
  refine (HT.out _).mono ?_; rintro e w2 ⟨rfl, hb2⟩
  have hk := keep1 hb2 ⟨c0, c1, f0, f1, hz, hbw⟩
  clear c0 c1 f0 f1 hz hbw hb2
  obtain ⟨c0, c1, f0, f1, hz, hbw⟩ := hk
  go_wp2_with fail
  refine bodyPost_ret (v := .tuple #[.agg #[.int .i64 0, .int .i64 0], .int .i64 140]) (by simp [results, Tryz.results55, go_sem, *]) rfl ⟨rfl, ?_⟩
  go_grown
set_option maxRecDepth 100000 in
set_option maxHeartbeats 2000000 in
theorem parse_z_np (s dB fB bB : ByteArray) (bl pt : Bool) (v e : Int) (w : World) (he : Env w)
    (HC : Hid (∀ w, Calls Tryz.prog 84 #[.string s, .string ⟨#[45]⟩] w fun e w' => e = .returned (.tuple #[.string dB, .bool bl]) ∧ w = w'))
    (HK : Hid (∀ w, Calls Tryz.prog 85 #[.string dB, .string ⟨#[46]⟩] w fun e w' => e = .returned (.tuple #[.string fB, .string bB, .bool pt]) ∧ ∃ n, w' = w.drewN n))
    (HR : Hid (∀ w, Env w → Calls Tryz.prog 86 #[.string fB] w fun e' w' => e' = .returned (.tuple #[.int .i64 v, .int .i64 e]) ∧ Below w.heap.size w w'))
    (h1 : (e == 21) = false) (HP : Hid (∀ w, Calls Tryz.prog 87 #[.string fB, .string ⟨#[45]⟩] w fun e w' => e = .returned (.bool false) ∧ w = w')) (h2 : pt = false) (hf : fB.size ≤ 140737488355328) (hb : bB.size ≤ 140737488355328) (aB : ByteArray) (HL : Hid (∀ w, Calls Tryz.prog 89 #[.string (fB ++ bB), .string ⟨#[48]⟩] w fun e w' => e = .returned (.string aB) ∧ w' = w)) (ha : aB.toList = []) (ha2 : aB.toList.isEmpty = true) :
    Calls Tryz.prog 55 #[.string s] w fun e w' => e = .returned (.tuple #[.agg #[.int .i64 0, .int .i64 0], .int .i64 0]) ∧ Below w.heap.size w w' := by
  subst h2
  go_enter Tryz.func55, Tryz.ntmps55
  go_wp2_with fail
  refine (HC.out _).mono ?_; rintro e w1 ⟨rfl, rfl⟩
  go_wp2_with fail
  refine (HK.out _).mono ?_; rintro e w1 ⟨rfl, nd, rfl⟩
  go_wp2_with fail
  refine ((HR.out _ (he.stays (below_drawN nd ((Below.refl _ _).alloc (Nat.le_refl _) _)))).mono ?_); rintro e w1 ⟨rfl, hb1⟩
  obtain ⟨c0, c1, f0, f1, hz, hbw⟩ := own2d hb1
  clear hb1
  go_wp2_with fail
  refine (HP.out _).mono ?_; rintro e w2 ⟨rfl, rfl⟩
  go_wp2_with fail
  refine (HL.out _).mono ?_; rintro e w4 ⟨rfl, rfl⟩
  go_wp2_with fail
  refine bodyPost_ret (v := .tuple #[.agg #[.int .i64 0, .int .i64 0], .int .i64 0]) (by simp [results, Tryz.results55, go_sem, *]) rfl ⟨rfl, ?_⟩
  go_grown
set_option maxRecDepth 100000 in
set_option maxHeartbeats 2000000 in
theorem parse_o_np_false (s dB fB bB : ByteArray) (bl pt : Bool) (v e : Int) (w : World) (he : Env w)
    (HC : Hid (∀ w, Calls Tryz.prog 84 #[.string s, .string ⟨#[45]⟩] w fun e w' => e = .returned (.tuple #[.string dB, .bool bl]) ∧ w = w'))
    (HK : Hid (∀ w, Calls Tryz.prog 85 #[.string dB, .string ⟨#[46]⟩] w fun e w' => e = .returned (.tuple #[.string fB, .string bB, .bool pt]) ∧ ∃ n, w' = w.drewN n))
    (HR : Hid (∀ w, Env w → Calls Tryz.prog 86 #[.string fB] w fun e' w' => e' = .returned (.tuple #[.int .i64 v, .int .i64 e]) ∧ Below w.heap.size w w'))
    (h1 : (e == 21) = false) (HP : Hid (∀ w, Calls Tryz.prog 87 #[.string fB, .string ⟨#[45]⟩] w fun e w' => e = .returned (.bool false) ∧ w = w')) (h2 : pt = false) (hf : fB.size ≤ 140737488355328) (hb : bB.size ≤ 140737488355328) (aB : ByteArray) (HL : Hid (∀ w, Calls Tryz.prog 89 #[.string (fB ++ bB), .string ⟨#[48]⟩] w fun e w' => e = .returned (.string aB) ∧ w' = w)) (hbl : bl = false) (ha : ¬ aB.toList = []) (ha2 : aB.toList.isEmpty = false) (hab : aB.size ≤ 281474976710656) (n e2 : Int) (HR2 : Hid (∀ w, Env w → Calls Tryz.prog 86 #[.string aB] w fun e' w' => e' = .returned (.tuple #[.int .i64 n, .int .i64 e2]) ∧ Below w.heap.size w w')) (h9 : (e2 != 0) = true) :
    Calls Tryz.prog 55 #[.string s] w fun e w' => e = .returned (.tuple #[.agg #[.int .i64 0, .int .i64 0], .int .i64 140]) ∧ Below w.heap.size w w' := by
  subst h2
  subst hbl
  go_enter Tryz.func55, Tryz.ntmps55
  go_wp2_with fail
  refine (HC.out _).mono ?_; rintro e w1 ⟨rfl, rfl⟩
  go_wp2_with fail
  refine (HK.out _).mono ?_; rintro e w1 ⟨rfl, nd, rfl⟩
  go_wp2_with fail
  refine ((HR.out _ (he.stays (below_drawN nd ((Below.refl _ _).alloc (Nat.le_refl _) _)))).mono ?_); rintro e w1 ⟨rfl, hb1⟩
  obtain ⟨c0, c1, f0, f1, hz, hbw⟩ := own2d hb1
  clear hb1
  go_wp2_with fail
  refine (HP.out _).mono ?_; rintro e w2 ⟨rfl, rfl⟩
  go_wp2_with fail
  refine (HL.out _).mono ?_; rintro e w4 ⟨rfl, rfl⟩
  go_wp2_with fail
  refine ((HR2.out _ (he.stays (by assumption))).mono ?_); rintro e w5 ⟨rfl, hb5⟩
  have hk := keep1 hb5 ⟨c0, c1, f0, f1, hz, hbw⟩
  clear c0 c1 f0 f1 hz hbw hb5
  obtain ⟨c0, c1, f0, f1, hz, hbw⟩ := hk
  go_wp2_with fail
  refine bodyPost_ret (v := .tuple #[.agg #[.int .i64 0, .int .i64 0], .int .i64 140]) (by simp [results, Tryz.results55, go_sem, *]) rfl ⟨rfl, ?_⟩
  go_grown
set_option maxRecDepth 100000 in
set_option maxHeartbeats 2000000 in
theorem parse_m_np_false (s dB fB bB : ByteArray) (bl pt : Bool) (v e : Int) (w : World) (he : Env w)
    (HC : Hid (∀ w, Calls Tryz.prog 84 #[.string s, .string ⟨#[45]⟩] w fun e w' => e = .returned (.tuple #[.string dB, .bool bl]) ∧ w = w'))
    (HK : Hid (∀ w, Calls Tryz.prog 85 #[.string dB, .string ⟨#[46]⟩] w fun e w' => e = .returned (.tuple #[.string fB, .string bB, .bool pt]) ∧ ∃ n, w' = w.drewN n))
    (HR : Hid (∀ w, Env w → Calls Tryz.prog 86 #[.string fB] w fun e' w' => e' = .returned (.tuple #[.int .i64 v, .int .i64 e]) ∧ Below w.heap.size w w'))
    (h1 : (e == 21) = false) (HP : Hid (∀ w, Calls Tryz.prog 87 #[.string fB, .string ⟨#[45]⟩] w fun e w' => e = .returned (.bool false) ∧ w = w')) (h2 : pt = false) (hf : fB.size ≤ 140737488355328) (hb : bB.size ≤ 140737488355328) (aB : ByteArray) (HL : Hid (∀ w, Calls Tryz.prog 89 #[.string (fB ++ bB), .string ⟨#[48]⟩] w fun e w' => e = .returned (.string aB) ∧ w' = w)) (hbl : bl = false) (ha : ¬ aB.toList = []) (ha2 : aB.toList.isEmpty = false) (hab : aB.size ≤ 281474976710656) (n e2 : Int) (HR2 : Hid (∀ w, Env w → Calls Tryz.prog 86 #[.string aB] w fun e' w' => e' = .returned (.tuple #[.int .i64 n, .int .i64 e2]) ∧ Below w.heap.size w w')) (h9 : e2 = 0) (hn : R n) (h8 : bB.size ≤ 18) (rM : Int) (rS : Nat) (HN : Hid (norm bB.size n = (rM, rS))) :
    Calls Tryz.prog 55 #[.string s] w fun e w' => e = .returned (.tuple #[.agg #[.int .i64 rM, .int .i64 (rS : Int)], .int .i64 0]) ∧ Below w.heap.size w w' := by
  subst h2
  subst hbl
  subst h9
  go_enter Tryz.func55, Tryz.ntmps55
  go_wp2_with fail
  refine (HC.out _).mono ?_; rintro e w1 ⟨rfl, rfl⟩
  go_wp2_with fail
  refine (HK.out _).mono ?_; rintro e w1 ⟨rfl, nd, rfl⟩
  go_wp2_with fail
  refine ((HR.out _ (he.stays (below_drawN nd ((Below.refl _ _).alloc (Nat.le_refl _) _)))).mono ?_); rintro e w1 ⟨rfl, hb1⟩
  obtain ⟨c0, c1, f0, f1, hz, hbw⟩ := own2d hb1
  clear hb1
  go_wp2_with fail
  refine (HP.out _).mono ?_; rintro e w2 ⟨rfl, rfl⟩
  go_wp2_with fail
  refine (HL.out _).mono ?_; rintro e w4 ⟨rfl, rfl⟩
  go_wp2_with fail
  refine ((HR2.out _ (he.stays (by assumption))).mono ?_); rintro e w5 ⟨rfl, hb5⟩
  have hk := keep1 hb5 ⟨c0, c1, f0, f1, hz, hbw⟩
  clear c0 c1 f0 f1 hz hbw hb5
  obtain ⟨c0, c1, f0, f1, hz, hbw⟩ := hk
  go_wp2_with fail
  go_loopg [84] bB.size (fun k u wr => ∃ (j : Nat) (y : Int), k = j ∧ j ≤ 18 ∧ R y ∧ wr.cell? ⟨w5.heap.size, 0, none⟩ = some (.int .i64 y) ∧ wr.cell? ⟨w5.heap.size, 1, none⟩ = some (.int .i64 j) ∧ wr.frozen? ⟨w5.heap.size, 0, none⟩ = false ∧ wr.frozen? ⟨w5.heap.size, 1, none⟩ = false ∧ wr.cell? ⟨w.heap.size, 0, none⟩ = some (.int .i64 0) ∧ wr.cell? ⟨w.heap.size, 1, none⟩ = some (.int .i64 0) ∧ wr.frozen? ⟨w.heap.size, 0, none⟩ = false ∧ wr.frozen? ⟨w.heap.size, 1, none⟩ = false ∧ w5.heap.size < wr.heap.size ∧ Hid (norm j y = (rM, rS)) ∧ Below w.heap.size w wr)
  case atStart =>
    refine ⟨bB.size, n, rfl, h8, hn, by simp [go_sem], by simp [go_sem], by simp [go_sem], by simp [go_sem], by simp [go_sem, *], by simp [go_sem, *], by simp [go_sem, *], by simp [go_sem, *], by simp, HN, ?_⟩
    go_grown
  case round =>
    obtain ⟨j, y, rfl, hj, hy, a0, a1, b0, b1, c0', c1', f0', f1', hz', HY, hbw'⟩ := hrel
    have hlt : ¬ w5.heap.size = w.heap.size := by omega
    clear c0 c1 f0 f1 hbw
    obtain ⟨y1, y2⟩ := hy
    by_cases hj0 : gk = 0
    · subst hj0
      have hend : rM = y ∧ rS = 0 := by have := HY.out; rw [norm] at this; exact ⟨congrArg Prod.fst this.symm, congrArg Prod.snd this.symm⟩
      obtain ⟨rfl, rfl⟩ := hend
      go_wp2_with fail
      refine bodyPost_ret (v := .tuple #[.agg #[.int .i64 rM, .int .i64 ((0 : Nat) : Int)], .int .i64 0]) (by simp [results, Tryz.results55, go_sem, *]) rfl ⟨rfl, ?_⟩
      go_grown
    · obtain ⟨i, rfl⟩ : ∃ i, gk = i + 1 := ⟨gk - 1, by omega⟩
      by_cases hm : y % 10 = 0
      · have ht : (y.tmod 10 == 0) = true := by rw [beq_iff_eq]; exact (tmod_zero y).2 hm
        obtain ⟨z, hq⟩ : ∃ z, y.tdiv 10 = z := ⟨_, rfl⟩
        have hqz : z = y / 10 := by rw [← hq, Int.tdiv_eq_ediv_of_dvd (Int.dvd_of_emod_eq_zero hm)]
        have HY2 : Hid (norm i z = (rM, rS)) := Lib.hid (by have := HY.out; rw [norm, if_pos hm, ← hqz] at this; exact this)
        have zb : -9223372036854775808 ≤ z ∧ z ≤ 9223372036854775807 := by omega
        obtain ⟨z1, z2⟩ := zb
        clear hqz hm hj0
        go_wp2_with fail
        go_roundg i
        case measure => omega
        case rel =>
          refine ⟨i, z, rfl, by omega, ⟨z1, z2⟩, by simp [go_sem, *], by simp [go_sem, *], by simp [go_sem, *], by simp [go_sem, *], by simp [go_sem, *], by simp [go_sem, *], by simp [go_sem, *], by simp [go_sem, *], by simpa using hz', HY2, ?_⟩
          go_grown
      · have ht : (y.tmod 10 == 0) = false := by rw [beq_eq_false_iff_ne]; exact fun h => hm ((tmod_zero y).1 h)
        have hend : rM = y ∧ rS = i + 1 := by have := HY.out; rw [norm, if_neg hm] at this; exact ⟨congrArg Prod.fst this.symm, congrArg Prod.snd this.symm⟩
        obtain ⟨rfl, rfl⟩ := hend
        clear hm hj0
        go_wp2_with fail
        refine bodyPost_ret (v := .tuple #[.agg #[.int .i64 rM, .int .i64 ((i : Int) + 1)], .int .i64 0]) (by simp [results, Tryz.results55, go_sem, *]) rfl ⟨rfl, ?_⟩
        go_grown
set_option maxRecDepth 100000 in
set_option maxHeartbeats 2000000 in
theorem parse_o_np_true (s dB fB bB : ByteArray) (bl pt : Bool) (v e : Int) (w : World) (he : Env w)
    (HC : Hid (∀ w, Calls Tryz.prog 84 #[.string s, .string ⟨#[45]⟩] w fun e w' => e = .returned (.tuple #[.string dB, .bool bl]) ∧ w = w'))
    (HK : Hid (∀ w, Calls Tryz.prog 85 #[.string dB, .string ⟨#[46]⟩] w fun e w' => e = .returned (.tuple #[.string fB, .string bB, .bool pt]) ∧ ∃ n, w' = w.drewN n))
    (HR : Hid (∀ w, Env w → Calls Tryz.prog 86 #[.string fB] w fun e' w' => e' = .returned (.tuple #[.int .i64 v, .int .i64 e]) ∧ Below w.heap.size w w'))
    (h1 : (e == 21) = false) (HP : Hid (∀ w, Calls Tryz.prog 87 #[.string fB, .string ⟨#[45]⟩] w fun e w' => e = .returned (.bool false) ∧ w = w')) (h2 : pt = false) (hf : fB.size ≤ 140737488355328) (hb : bB.size ≤ 140737488355328) (aB : ByteArray) (HL : Hid (∀ w, Calls Tryz.prog 89 #[.string (fB ++ bB), .string ⟨#[48]⟩] w fun e w' => e = .returned (.string aB) ∧ w' = w)) (hbl : bl = true) (ha : ¬ aB.toList = []) (ha2 : aB.toList.isEmpty = false) (hab : aB.size ≤ 281474976710656) (n e2 : Int) (HR2 : Hid (∀ w, Env w → Calls Tryz.prog 86 #[.string (⟨#[45]⟩ ++ aB)] w fun e' w' => e' = .returned (.tuple #[.int .i64 n, .int .i64 e2]) ∧ Below w.heap.size w w')) (h9 : (e2 != 0) = true) :
    Calls Tryz.prog 55 #[.string s] w fun e w' => e = .returned (.tuple #[.agg #[.int .i64 0, .int .i64 0], .int .i64 140]) ∧ Below w.heap.size w w' := by
  subst h2
  subst hbl
  go_enter Tryz.func55, Tryz.ntmps55
  go_wp2_with fail
  refine (HC.out _).mono ?_; rintro e w1 ⟨rfl, rfl⟩
  go_wp2_with fail
  refine (HK.out _).mono ?_; rintro e w1 ⟨rfl, nd, rfl⟩
  go_wp2_with fail
  refine ((HR.out _ (he.stays (below_drawN nd ((Below.refl _ _).alloc (Nat.le_refl _) _)))).mono ?_); rintro e w1 ⟨rfl, hb1⟩
  obtain ⟨c0, c1, f0, f1, hz, hbw⟩ := own2d hb1
  clear hb1
  go_wp2_with fail
  refine (HP.out _).mono ?_; rintro e w2 ⟨rfl, rfl⟩
  go_wp2_with fail
  refine (HL.out _).mono ?_; rintro e w4 ⟨rfl, rfl⟩
  go_wp2_with fail
  refine ((HR2.out _ (he.stays (by assumption))).mono ?_); rintro e w5 ⟨rfl, hb5⟩
  have hk := keep1 hb5 ⟨c0, c1, f0, f1, hz, hbw⟩
  clear c0 c1 f0 f1 hz hbw hb5
  obtain ⟨c0, c1, f0, f1, hz, hbw⟩ := hk
  go_wp2_with fail
  refine bodyPost_ret (v := .tuple #[.agg #[.int .i64 0, .int .i64 0], .int .i64 140]) (by simp [results, Tryz.results55, go_sem, *]) rfl ⟨rfl, ?_⟩
  go_grown
set_option maxRecDepth 100000 in
set_option maxHeartbeats 2000000 in
theorem parse_m_np_true (s dB fB bB : ByteArray) (bl pt : Bool) (v e : Int) (w : World) (he : Env w)
    (HC : Hid (∀ w, Calls Tryz.prog 84 #[.string s, .string ⟨#[45]⟩] w fun e w' => e = .returned (.tuple #[.string dB, .bool bl]) ∧ w = w'))
    (HK : Hid (∀ w, Calls Tryz.prog 85 #[.string dB, .string ⟨#[46]⟩] w fun e w' => e = .returned (.tuple #[.string fB, .string bB, .bool pt]) ∧ ∃ n, w' = w.drewN n))
    (HR : Hid (∀ w, Env w → Calls Tryz.prog 86 #[.string fB] w fun e' w' => e' = .returned (.tuple #[.int .i64 v, .int .i64 e]) ∧ Below w.heap.size w w'))
    (h1 : (e == 21) = false) (HP : Hid (∀ w, Calls Tryz.prog 87 #[.string fB, .string ⟨#[45]⟩] w fun e w' => e = .returned (.bool false) ∧ w = w')) (h2 : pt = false) (hf : fB.size ≤ 140737488355328) (hb : bB.size ≤ 140737488355328) (aB : ByteArray) (HL : Hid (∀ w, Calls Tryz.prog 89 #[.string (fB ++ bB), .string ⟨#[48]⟩] w fun e w' => e = .returned (.string aB) ∧ w' = w)) (hbl : bl = true) (ha : ¬ aB.toList = []) (ha2 : aB.toList.isEmpty = false) (hab : aB.size ≤ 281474976710656) (n e2 : Int) (HR2 : Hid (∀ w, Env w → Calls Tryz.prog 86 #[.string (⟨#[45]⟩ ++ aB)] w fun e' w' => e' = .returned (.tuple #[.int .i64 n, .int .i64 e2]) ∧ Below w.heap.size w w')) (h9 : e2 = 0) (hn : R n) (h8 : bB.size ≤ 18) (rM : Int) (rS : Nat) (HN : Hid (norm bB.size n = (rM, rS))) :
    Calls Tryz.prog 55 #[.string s] w fun e w' => e = .returned (.tuple #[.agg #[.int .i64 rM, .int .i64 (rS : Int)], .int .i64 0]) ∧ Below w.heap.size w w' := by
  subst h2
  subst hbl
  subst h9
  go_enter Tryz.func55, Tryz.ntmps55
  go_wp2_with fail
  refine (HC.out _).mono ?_; rintro e w1 ⟨rfl, rfl⟩
  go_wp2_with fail
  refine (HK.out _).mono ?_; rintro e w1 ⟨rfl, nd, rfl⟩
  go_wp2_with fail
  refine ((HR.out _ (he.stays (below_drawN nd ((Below.refl _ _).alloc (Nat.le_refl _) _)))).mono ?_); rintro e w1 ⟨rfl, hb1⟩
  obtain ⟨c0, c1, f0, f1, hz, hbw⟩ := own2d hb1
  clear hb1
  go_wp2_with fail
  refine (HP.out _).mono ?_; rintro e w2 ⟨rfl, rfl⟩
  go_wp2_with fail
  refine (HL.out _).mono ?_; rintro e w4 ⟨rfl, rfl⟩
  go_wp2_with fail
  refine ((HR2.out _ (he.stays (by assumption))).mono ?_); rintro e w5 ⟨rfl, hb5⟩
  have hk := keep1 hb5 ⟨c0, c1, f0, f1, hz, hbw⟩
  clear c0 c1 f0 f1 hz hbw hb5
  obtain ⟨c0, c1, f0, f1, hz, hbw⟩ := hk
  go_wp2_with fail
  go_loopg [84] bB.size (fun k u wr => ∃ (j : Nat) (y : Int), k = j ∧ j ≤ 18 ∧ R y ∧ wr.cell? ⟨w5.heap.size, 0, none⟩ = some (.int .i64 y) ∧ wr.cell? ⟨w5.heap.size, 1, none⟩ = some (.int .i64 j) ∧ wr.frozen? ⟨w5.heap.size, 0, none⟩ = false ∧ wr.frozen? ⟨w5.heap.size, 1, none⟩ = false ∧ wr.cell? ⟨w.heap.size, 0, none⟩ = some (.int .i64 0) ∧ wr.cell? ⟨w.heap.size, 1, none⟩ = some (.int .i64 0) ∧ wr.frozen? ⟨w.heap.size, 0, none⟩ = false ∧ wr.frozen? ⟨w.heap.size, 1, none⟩ = false ∧ w5.heap.size < wr.heap.size ∧ Hid (norm j y = (rM, rS)) ∧ Below w.heap.size w wr)
  case atStart =>
    refine ⟨bB.size, n, rfl, h8, hn, by simp [go_sem], by simp [go_sem], by simp [go_sem], by simp [go_sem], by simp [go_sem, *], by simp [go_sem, *], by simp [go_sem, *], by simp [go_sem, *], by simp, HN, ?_⟩
    go_grown
  case round =>
    obtain ⟨j, y, rfl, hj, hy, a0, a1, b0, b1, c0', c1', f0', f1', hz', HY, hbw'⟩ := hrel
    have hlt : ¬ w5.heap.size = w.heap.size := by omega
    clear c0 c1 f0 f1 hbw
    obtain ⟨y1, y2⟩ := hy
    by_cases hj0 : gk = 0
    · subst hj0
      have hend : rM = y ∧ rS = 0 := by have := HY.out; rw [norm] at this; exact ⟨congrArg Prod.fst this.symm, congrArg Prod.snd this.symm⟩
      obtain ⟨rfl, rfl⟩ := hend
      go_wp2_with fail
      refine bodyPost_ret (v := .tuple #[.agg #[.int .i64 rM, .int .i64 ((0 : Nat) : Int)], .int .i64 0]) (by simp [results, Tryz.results55, go_sem, *]) rfl ⟨rfl, ?_⟩
      go_grown
    · obtain ⟨i, rfl⟩ : ∃ i, gk = i + 1 := ⟨gk - 1, by omega⟩
      by_cases hm : y % 10 = 0
      · have ht : (y.tmod 10 == 0) = true := by rw [beq_iff_eq]; exact (tmod_zero y).2 hm
        obtain ⟨z, hq⟩ : ∃ z, y.tdiv 10 = z := ⟨_, rfl⟩
        have hqz : z = y / 10 := by rw [← hq, Int.tdiv_eq_ediv_of_dvd (Int.dvd_of_emod_eq_zero hm)]
        have HY2 : Hid (norm i z = (rM, rS)) := Lib.hid (by have := HY.out; rw [norm, if_pos hm, ← hqz] at this; exact this)
        have zb : -9223372036854775808 ≤ z ∧ z ≤ 9223372036854775807 := by omega
        obtain ⟨z1, z2⟩ := zb
        clear hqz hm hj0
        go_wp2_with fail
        go_roundg i
        case measure => omega
        case rel =>
          refine ⟨i, z, rfl, by omega, ⟨z1, z2⟩, by simp [go_sem, *], by simp [go_sem, *], by simp [go_sem, *], by simp [go_sem, *], by simp [go_sem, *], by simp [go_sem, *], by simp [go_sem, *], by simp [go_sem, *], by simpa using hz', HY2, ?_⟩
          go_grown
      · have ht : (y.tmod 10 == 0) = false := by rw [beq_eq_false_iff_ne]; exact fun h => hm ((tmod_zero y).1 h)
        have hend : rM = y ∧ rS = i + 1 := by have := HY.out; rw [norm, if_neg hm] at this; exact ⟨congrArg Prod.fst this.symm, congrArg Prod.snd this.symm⟩
        obtain ⟨rfl, rfl⟩ := hend
        clear hm hj0
        go_wp2_with fail
        refine bodyPost_ret (v := .tuple #[.agg #[.int .i64 rM, .int .i64 ((i : Int) + 1)], .int .i64 0]) (by simp [results, Tryz.results55, go_sem, *]) rfl ⟨rfl, ?_⟩
        go_grown
set_option maxRecDepth 100000 in
set_option maxHeartbeats 2000000 in
theorem parse_z_pt (s dB fB bB : ByteArray) (bl pt : Bool) (v e : Int) (w : World) (he : Env w)
    (HC : Hid (∀ w, Calls Tryz.prog 84 #[.string s, .string ⟨#[45]⟩] w fun e w' => e = .returned (.tuple #[.string dB, .bool bl]) ∧ w = w'))
    (HK : Hid (∀ w, Calls Tryz.prog 85 #[.string dB, .string ⟨#[46]⟩] w fun e w' => e = .returned (.tuple #[.string fB, .string bB, .bool pt]) ∧ ∃ n, w' = w.drewN n))
    (HR : Hid (∀ w, Env w → Calls Tryz.prog 86 #[.string fB] w fun e' w' => e' = .returned (.tuple #[.int .i64 v, .int .i64 e]) ∧ Below w.heap.size w w'))
    (h1 : (e == 21) = false) (HP : Hid (∀ w, Calls Tryz.prog 87 #[.string fB, .string ⟨#[45]⟩] w fun e w' => e = .returned (.bool false) ∧ w = w')) (tB : ByteArray) (h2 : pt = true) (h3 : ¬ bB.toList = []) (h4 : bB.toList.isEmpty = false) (h5 : bB.size ≤ 18) (HT : Hid (∀ w, Calls Tryz.prog 88 #[.string bB, .string ⟨#[48, 49, 50, 51, 52, 53, 54, 55, 56, 57]⟩] w fun e w' => e = .returned (.string tB) ∧ Below w.heap.size w w')) (h6 : tB.toList = []) (h7 : tB.toList.isEmpty = true) (hf : fB.size ≤ 140737488355328) (hb : bB.size ≤ 140737488355328) (aB : ByteArray) (HL : Hid (∀ w, Calls Tryz.prog 89 #[.string (fB ++ bB), .string ⟨#[48]⟩] w fun e w' => e = .returned (.string aB) ∧ w' = w)) (ha : aB.toList = []) (ha2 : aB.toList.isEmpty = true) :
    Calls Tryz.prog 55 #[.string s] w fun e w' => e = .returned (.tuple #[.agg #[.int .i64 0, .int .i64 0], .int .i64 0]) ∧ Below w.heap.size w w' := by
  subst h2
  go_enter Tryz.func55, Tryz.ntmps55
  go_wp2_with fail
  refine (HC.out _).mono ?_; rintro e w1 ⟨rfl, rfl⟩
  go_wp2_with fail
  refine (HK.out _).mono ?_; rintro e w1 ⟨rfl, nd, rfl⟩
  go_wp2_with fail
  refine ((HR.out _ (he.stays (below_drawN nd ((Below.refl _ _).alloc (Nat.le_refl _) _)))).mono ?_); rintro e w1 ⟨rfl, hb1⟩
  obtain ⟨c0, c1, f0, f1, hz, hbw⟩ := own2d hb1
  clear hb1
  go_wp2_with fail
  refine (HP.out _).mono ?_; rintro e w2 ⟨rfl, rfl⟩
  go_wp2_with fail
  refine (HT.out _).mono ?_; rintro e w2 ⟨rfl, hb2⟩
  have hk := keep1 hb2 ⟨c0, c1, f0, f1, hz, hbw⟩
  clear c0 c1 f0 f1 hz hbw hb2
  obtain ⟨c0, c1, f0, f1, hz, hbw⟩ := hk
  go_wp2_with fail
  refine (HL.out _).mono ?_; rintro e w4 ⟨rfl, rfl⟩
  go_wp2_with fail
  refine bodyPost_ret (v := .tuple #[.agg #[.int .i64 0, .int .i64 0], .int .i64 0]) (by simp [results, Tryz.results55, go_sem, *]) rfl ⟨rfl, ?_⟩
  go_grown
set_option maxRecDepth 100000 in
set_option maxHeartbeats 2000000 in
theorem parse_o_pt_false (s dB fB bB : ByteArray) (bl pt : Bool) (v e : Int) (w : World) (he : Env w)
    (HC : Hid (∀ w, Calls Tryz.prog 84 #[.string s, .string ⟨#[45]⟩] w fun e w' => e = .returned (.tuple #[.string dB, .bool bl]) ∧ w = w'))
    (HK : Hid (∀ w, Calls Tryz.prog 85 #[.string dB, .string ⟨#[46]⟩] w fun e w' => e = .returned (.tuple #[.string fB, .string bB, .bool pt]) ∧ ∃ n, w' = w.drewN n))
    (HR : Hid (∀ w, Env w → Calls Tryz.prog 86 #[.string fB] w fun e' w' => e' = .returned (.tuple #[.int .i64 v, .int .i64 e]) ∧ Below w.heap.size w w'))
    (h1 : (e == 21) = false) (HP : Hid (∀ w, Calls Tryz.prog 87 #[.string fB, .string ⟨#[45]⟩] w fun e w' => e = .returned (.bool false) ∧ w = w')) (tB : ByteArray) (h2 : pt = true) (h3 : ¬ bB.toList = []) (h4 : bB.toList.isEmpty = false) (h5 : bB.size ≤ 18) (HT : Hid (∀ w, Calls Tryz.prog 88 #[.string bB, .string ⟨#[48, 49, 50, 51, 52, 53, 54, 55, 56, 57]⟩] w fun e w' => e = .returned (.string tB) ∧ Below w.heap.size w w')) (h6 : tB.toList = []) (h7 : tB.toList.isEmpty = true) (hf : fB.size ≤ 140737488355328) (hb : bB.size ≤ 140737488355328) (aB : ByteArray) (HL : Hid (∀ w, Calls Tryz.prog 89 #[.string (fB ++ bB), .string ⟨#[48]⟩] w fun e w' => e = .returned (.string aB) ∧ w' = w)) (hbl : bl = false) (ha : ¬ aB.toList = []) (ha2 : aB.toList.isEmpty = false) (hab : aB.size ≤ 281474976710656) (n e2 : Int) (HR2 : Hid (∀ w, Env w → Calls Tryz.prog 86 #[.string aB] w fun e' w' => e' = .returned (.tuple #[.int .i64 n, .int .i64 e2]) ∧ Below w.heap.size w w')) (h9 : (e2 != 0) = true) :
    Calls Tryz.prog 55 #[.string s] w fun e w' => e = .returned (.tuple #[.agg #[.int .i64 0, .int .i64 0], .int .i64 140]) ∧ Below w.heap.size w w' := by
  subst h2
  subst hbl
  go_enter Tryz.func55, Tryz.ntmps55
  go_wp2_with fail
  refine (HC.out _).mono ?_; rintro e w1 ⟨rfl, rfl⟩
  go_wp2_with fail
  refine (HK.out _).mono ?_; rintro e w1 ⟨rfl, nd, rfl⟩
  go_wp2_with fail
  refine ((HR.out _ (he.stays (below_drawN nd ((Below.refl _ _).alloc (Nat.le_refl _) _)))).mono ?_); rintro e w1 ⟨rfl, hb1⟩
  obtain ⟨c0, c1, f0, f1, hz, hbw⟩ := own2d hb1
  clear hb1
  go_wp2_with fail
  refine (HP.out _).mono ?_; rintro e w2 ⟨rfl, rfl⟩
  go_wp2_with fail
  refine (HT.out _).mono ?_; rintro e w2 ⟨rfl, hb2⟩
  have hk := keep1 hb2 ⟨c0, c1, f0, f1, hz, hbw⟩
  clear c0 c1 f0 f1 hz hbw hb2
  obtain ⟨c0, c1, f0, f1, hz, hbw⟩ := hk
  go_wp2_with fail
  refine (HL.out _).mono ?_; rintro e w4 ⟨rfl, rfl⟩
  go_wp2_with fail
  refine ((HR2.out _ (he.stays (by assumption))).mono ?_); rintro e w5 ⟨rfl, hb5⟩
  have hk := keep1 hb5 ⟨c0, c1, f0, f1, hz, hbw⟩
  clear c0 c1 f0 f1 hz hbw hb5
  obtain ⟨c0, c1, f0, f1, hz, hbw⟩ := hk
  go_wp2_with fail
  refine bodyPost_ret (v := .tuple #[.agg #[.int .i64 0, .int .i64 0], .int .i64 140]) (by simp [results, Tryz.results55, go_sem, *]) rfl ⟨rfl, ?_⟩
  go_grown
set_option maxRecDepth 100000 in
set_option maxHeartbeats 2000000 in
theorem parse_m_pt_false (s dB fB bB : ByteArray) (bl pt : Bool) (v e : Int) (w : World) (he : Env w)
    (HC : Hid (∀ w, Calls Tryz.prog 84 #[.string s, .string ⟨#[45]⟩] w fun e w' => e = .returned (.tuple #[.string dB, .bool bl]) ∧ w = w'))
    (HK : Hid (∀ w, Calls Tryz.prog 85 #[.string dB, .string ⟨#[46]⟩] w fun e w' => e = .returned (.tuple #[.string fB, .string bB, .bool pt]) ∧ ∃ n, w' = w.drewN n))
    (HR : Hid (∀ w, Env w → Calls Tryz.prog 86 #[.string fB] w fun e' w' => e' = .returned (.tuple #[.int .i64 v, .int .i64 e]) ∧ Below w.heap.size w w'))
    (h1 : (e == 21) = false) (HP : Hid (∀ w, Calls Tryz.prog 87 #[.string fB, .string ⟨#[45]⟩] w fun e w' => e = .returned (.bool false) ∧ w = w')) (tB : ByteArray) (h2 : pt = true) (h3 : ¬ bB.toList = []) (h4 : bB.toList.isEmpty = false) (h5 : bB.size ≤ 18) (HT : Hid (∀ w, Calls Tryz.prog 88 #[.string bB, .string ⟨#[48, 49, 50, 51, 52, 53, 54, 55, 56, 57]⟩] w fun e w' => e = .returned (.string tB) ∧ Below w.heap.size w w')) (h6 : tB.toList = []) (h7 : tB.toList.isEmpty = true) (hf : fB.size ≤ 140737488355328) (hb : bB.size ≤ 140737488355328) (aB : ByteArray) (HL : Hid (∀ w, Calls Tryz.prog 89 #[.string (fB ++ bB), .string ⟨#[48]⟩] w fun e w' => e = .returned (.string aB) ∧ w' = w)) (hbl : bl = false) (ha : ¬ aB.toList = []) (ha2 : aB.toList.isEmpty = false) (hab : aB.size ≤ 281474976710656) (n e2 : Int) (HR2 : Hid (∀ w, Env w → Calls Tryz.prog 86 #[.string aB] w fun e' w' => e' = .returned (.tuple #[.int .i64 n, .int .i64 e2]) ∧ Below w.heap.size w w')) (h9 : e2 = 0) (hn : R n) (h8 : bB.size ≤ 18) (rM : Int) (rS : Nat) (HN : Hid (norm bB.size n = (rM, rS))) :
    Calls Tryz.prog 55 #[.string s] w fun e w' => e = .returned (.tuple #[.agg #[.int .i64 rM, .int .i64 (rS : Int)], .int .i64 0]) ∧ Below w.heap.size w w' := by
  subst h2
  subst hbl
  subst h9
  go_enter Tryz.func55, Tryz.ntmps55
  go_wp2_with fail
  refine (HC.out _).mono ?_; rintro e w1 ⟨rfl, rfl⟩
  go_wp2_with fail
  refine (HK.out _).mono ?_; rintro e w1 ⟨rfl, nd, rfl⟩
  go_wp2_with fail
  refine ((HR.out _ (he.stays (below_drawN nd ((Below.refl _ _).alloc (Nat.le_refl _) _)))).mono ?_); rintro e w1 ⟨rfl, hb1⟩
  obtain ⟨c0, c1, f0, f1, hz, hbw⟩ := own2d hb1
  clear hb1
  go_wp2_with fail
  refine (HP.out _).mono ?_; rintro e w2 ⟨rfl, rfl⟩
  go_wp2_with fail
  refine (HT.out _).mono ?_; rintro e w2 ⟨rfl, hb2⟩
  have hk := keep1 hb2 ⟨c0, c1, f0, f1, hz, hbw⟩
  clear c0 c1 f0 f1 hz hbw hb2
  obtain ⟨c0, c1, f0, f1, hz, hbw⟩ := hk
  go_wp2_with fail
  refine (HL.out _).mono ?_; rintro e w4 ⟨rfl, rfl⟩
  go_wp2_with fail
  refine ((HR2.out _ (he.stays (by assumption))).mono ?_); rintro e w5 ⟨rfl, hb5⟩
  have hk := keep1 hb5 ⟨c0, c1, f0, f1, hz, hbw⟩
  clear c0 c1 f0 f1 hz hbw hb5
  obtain ⟨c0, c1, f0, f1, hz, hbw⟩ := hk
  go_wp2_with fail
  go_loopg [84] bB.size (fun k u wr => ∃ (j : Nat) (y : Int), k = j ∧ j ≤ 18 ∧ R y ∧ wr.cell? ⟨w5.heap.size, 0, none⟩ = some (.int .i64 y) ∧ wr.cell? ⟨w5.heap.size, 1, none⟩ = some (.int .i64 j) ∧ wr.frozen? ⟨w5.heap.size, 0, none⟩ = false ∧ wr.frozen? ⟨w5.heap.size, 1, none⟩ = false ∧ wr.cell? ⟨w.heap.size, 0, none⟩ = some (.int .i64 0) ∧ wr.cell? ⟨w.heap.size, 1, none⟩ = some (.int .i64 0) ∧ wr.frozen? ⟨w.heap.size, 0, none⟩ = false ∧ wr.frozen? ⟨w.heap.size, 1, none⟩ = false ∧ w5.heap.size < wr.heap.size ∧ Hid (norm j y = (rM, rS)) ∧ Below w.heap.size w wr)
  case atStart =>
    refine ⟨bB.size, n, rfl, h8, hn, by simp [go_sem], by simp [go_sem], by simp [go_sem], by simp [go_sem], by simp [go_sem, *], by simp [go_sem, *], by simp [go_sem, *], by simp [go_sem, *], by simp, HN, ?_⟩
    go_grown
  case round =>
    obtain ⟨j, y, rfl, hj, hy, a0, a1, b0, b1, c0', c1', f0', f1', hz', HY, hbw'⟩ := hrel
    have hlt : ¬ w5.heap.size = w.heap.size := by omega
    clear c0 c1 f0 f1 hbw
    obtain ⟨y1, y2⟩ := hy
    by_cases hj0 : gk = 0
    · subst hj0
      have hend : rM = y ∧ rS = 0 := by have := HY.out; rw [norm] at this; exact ⟨congrArg Prod.fst this.symm, congrArg Prod.snd this.symm⟩
      obtain ⟨rfl, rfl⟩ := hend
      go_wp2_with fail
      refine bodyPost_ret (v := .tuple #[.agg #[.int .i64 rM, .int .i64 ((0 : Nat) : Int)], .int .i64 0]) (by simp [results, Tryz.results55, go_sem, *]) rfl ⟨rfl, ?_⟩
      go_grown
    · obtain ⟨i, rfl⟩ : ∃ i, gk = i + 1 := ⟨gk - 1, by omega⟩
      by_cases hm : y % 10 = 0
      · have ht : (y.tmod 10 == 0) = true := by rw [beq_iff_eq]; exact (tmod_zero y).2 hm
        obtain ⟨z, hq⟩ : ∃ z, y.tdiv 10 = z := ⟨_, rfl⟩
        have hqz : z = y / 10 := by rw [← hq, Int.tdiv_eq_ediv_of_dvd (Int.dvd_of_emod_eq_zero hm)]
        have HY2 : Hid (norm i z = (rM, rS)) := Lib.hid (by have := HY.out; rw [norm, if_pos hm, ← hqz] at this; exact this)
        have zb : -9223372036854775808 ≤ z ∧ z ≤ 9223372036854775807 := by omega
        obtain ⟨z1, z2⟩ := zb
        clear hqz hm hj0
        go_wp2_with fail
        go_roundg i
        case measure => omega
        case rel =>
          refine ⟨i, z, rfl, by omega, ⟨z1, z2⟩, by simp [go_sem, *], by simp [go_sem, *], by simp [go_sem, *], by simp [go_sem, *], by simp [go_sem, *], by simp [go_sem, *], by simp [go_sem, *], by simp [go_sem, *], by simpa using hz', HY2, ?_⟩
          go_grown
      · have ht : (y.tmod 10 == 0) = false := by rw [beq_eq_false_iff_ne]; exact fun h => hm ((tmod_zero y).1 h)
        have hend : rM = y ∧ rS = i + 1 := by have := HY.out; rw [norm, if_neg hm] at this; exact ⟨congrArg Prod.fst this.symm, congrArg Prod.snd this.symm⟩
        obtain ⟨rfl, rfl⟩ := hend
        clear hm hj0
        go_wp2_with fail
        refine bodyPost_ret (v := .tuple #[.agg #[.int .i64 rM, .int .i64 ((i : Int) + 1)], .int .i64 0]) (by simp [results, Tryz.results55, go_sem, *]) rfl ⟨rfl, ?_⟩
        go_grown
set_option maxRecDepth 100000 in
set_option maxHeartbeats 2000000 in
theorem parse_o_pt_true (s dB fB bB : ByteArray) (bl pt : Bool) (v e : Int) (w : World) (he : Env w)
    (HC : Hid (∀ w, Calls Tryz.prog 84 #[.string s, .string ⟨#[45]⟩] w fun e w' => e = .returned (.tuple #[.string dB, .bool bl]) ∧ w = w'))
    (HK : Hid (∀ w, Calls Tryz.prog 85 #[.string dB, .string ⟨#[46]⟩] w fun e w' => e = .returned (.tuple #[.string fB, .string bB, .bool pt]) ∧ ∃ n, w' = w.drewN n))
    (HR : Hid (∀ w, Env w → Calls Tryz.prog 86 #[.string fB] w fun e' w' => e' = .returned (.tuple #[.int .i64 v, .int .i64 e]) ∧ Below w.heap.size w w'))
    (h1 : (e == 21) = false) (HP : Hid (∀ w, Calls Tryz.prog 87 #[.string fB, .string ⟨#[45]⟩] w fun e w' => e = .returned (.bool false) ∧ w = w')) (tB : ByteArray) (h2 : pt = true) (h3 : ¬ bB.toList = []) (h4 : bB.toList.isEmpty = false) (h5 : bB.size ≤ 18) (HT : Hid (∀ w, Calls Tryz.prog 88 #[.string bB, .string ⟨#[48, 49, 50, 51, 52, 53, 54, 55, 56, 57]⟩] w fun e w' => e = .returned (.string tB) ∧ Below w.heap.size w w')) (h6 : tB.toList = []) (h7 : tB.toList.isEmpty = true) (hf : fB.size ≤ 140737488355328) (hb : bB.size ≤ 140737488355328) (aB : ByteArray) (HL : Hid (∀ w, Calls Tryz.prog 89 #[.string (fB ++ bB), .string ⟨#[48]⟩] w fun e w' => e = .returned (.string aB) ∧ w' = w)) (hbl : bl = true) (ha : ¬ aB.toList = []) (ha2 : aB.toList.isEmpty = false) (hab : aB.size ≤ 281474976710656) (n e2 : Int) (HR2 : Hid (∀ w, Env w → Calls Tryz.prog 86 #[.string (⟨#[45]⟩ ++ aB)] w fun e' w' => e' = .returned (.tuple #[.int .i64 n, .int .i64 e2]) ∧ Below w.heap.size w w')) (h9 : (e2 != 0) = true) :
    Calls Tryz.prog 55 #[.string s] w fun e w' => e = .returned (.tuple #[.agg #[.int .i64 0, .int .i64 0], .int .i64 140]) ∧ Below w.heap.size w w' := by
  subst h2
  subst hbl
  go_enter Tryz.func55, Tryz.ntmps55
  go_wp2_with fail
  refine (HC.out _).mono ?_; rintro e w1 ⟨rfl, rfl⟩
  go_wp2_with fail
  refine (HK.out _).mono ?_; rintro e w1 ⟨rfl, nd, rfl⟩
  go_wp2_with fail
  refine ((HR.out _ (he.stays (below_drawN nd ((Below.refl _ _).alloc (Nat.le_refl _) _)))).mono ?_); rintro e w1 ⟨rfl, hb1⟩
  obtain ⟨c0, c1, f0, f1, hz, hbw⟩ := own2d hb1
  clear hb1
  go_wp2_with fail
  refine (HP.out _).mono ?_; rintro e w2 ⟨rfl, rfl⟩
  go_wp2_with fail
  refine (HT.out _).mono ?_; rintro e w2 ⟨rfl, hb2⟩
  have hk := keep1 hb2 ⟨c0, c1, f0, f1, hz, hbw⟩
  clear c0 c1 f0 f1 hz hbw hb2
  obtain ⟨c0, c1, f0, f1, hz, hbw⟩ := hk
  go_wp2_with fail
  refine (HL.out _).mono ?_; rintro e w4 ⟨rfl, rfl⟩
  go_wp2_with fail
  refine ((HR2.out _ (he.stays (by assumption))).mono ?_); rintro e w5 ⟨rfl, hb5⟩
  have hk := keep1 hb5 ⟨c0, c1, f0, f1, hz, hbw⟩
  clear c0 c1 f0 f1 hz hbw hb5
  obtain ⟨c0, c1, f0, f1, hz, hbw⟩ := hk
  go_wp2_with fail
  refine bodyPost_ret (v := .tuple #[.agg #[.int .i64 0, .int .i64 0], .int .i64 140]) (by simp [results, Tryz.results55, go_sem, *]) rfl ⟨rfl, ?_⟩
  go_grown
set_option maxRecDepth 100000 in
set_option maxHeartbeats 2000000 in
theorem parse_m_pt_true (s dB fB bB : ByteArray) (bl pt : Bool) (v e : Int) (w : World) (he : Env w)
    (HC : Hid (∀ w, Calls Tryz.prog 84 #[.string s, .string ⟨#[45]⟩] w fun e w' => e = .returned (.tuple #[.string dB, .bool bl]) ∧ w = w'))
    (HK : Hid (∀ w, Calls Tryz.prog 85 #[.string dB, .string ⟨#[46]⟩] w fun e w' => e = .returned (.tuple #[.string fB, .string bB, .bool pt]) ∧ ∃ n, w' = w.drewN n))
    (HR : Hid (∀ w, Env w → Calls Tryz.prog 86 #[.string fB] w fun e' w' => e' = .returned (.tuple #[.int .i64 v, .int .i64 e]) ∧ Below w.heap.size w w'))
    (h1 : (e == 21) = false) (HP : Hid (∀ w, Calls Tryz.prog 87 #[.string fB, .string ⟨#[45]⟩] w fun e w' => e = .returned (.bool false) ∧ w = w')) (tB : ByteArray) (h2 : pt = true) (h3 : ¬ bB.toList = []) (h4 : bB.toList.isEmpty = false) (h5 : bB.size ≤ 18) (HT : Hid (∀ w, Calls Tryz.prog 88 #[.string bB, .string ⟨#[48, 49, 50, 51, 52, 53, 54, 55, 56, 57]⟩] w fun e w' => e = .returned (.string tB) ∧ Below w.heap.size w w')) (h6 : tB.toList = []) (h7 : tB.toList.isEmpty = true) (hf : fB.size ≤ 140737488355328) (hb : bB.size ≤ 140737488355328) (aB : ByteArray) (HL : Hid (∀ w, Calls Tryz.prog 89 #[.string (fB ++ bB), .string ⟨#[48]⟩] w fun e w' => e = .returned (.string aB) ∧ w' = w)) (hbl : bl = true) (ha : ¬ aB.toList = []) (ha2 : aB.toList.isEmpty = false) (hab : aB.size ≤ 281474976710656) (n e2 : Int) (HR2 : Hid (∀ w, Env w → Calls Tryz.prog 86 #[.string (⟨#[45]⟩ ++ aB)] w fun e' w' => e' = .returned (.tuple #[.int .i64 n, .int .i64 e2]) ∧ Below w.heap.size w w')) (h9 : e2 = 0) (hn : R n) (h8 : bB.size ≤ 18) (rM : Int) (rS : Nat) (HN : Hid (norm bB.size n = (rM, rS))) :
    Calls Tryz.prog 55 #[.string s] w fun e w' => e = .returned (.tuple #[.agg #[.int .i64 rM, .int .i64 (rS : Int)], .int .i64 0]) ∧ Below w.heap.size w w' := by
  subst h2
  subst hbl
  subst h9
  go_enter Tryz.func55, Tryz.ntmps55
  go_wp2_with fail
  refine (HC.out _).mono ?_; rintro e w1 ⟨rfl, rfl⟩
  go_wp2_with fail
  refine (HK.out _).mono ?_; rintro e w1 ⟨rfl, nd, rfl⟩
  go_wp2_with fail
  refine ((HR.out _ (he.stays (below_drawN nd ((Below.refl _ _).alloc (Nat.le_refl _) _)))).mono ?_); rintro e w1 ⟨rfl, hb1⟩
  obtain ⟨c0, c1, f0, f1, hz, hbw⟩ := own2d hb1
  clear hb1
  go_wp2_with fail
  refine (HP.out _).mono ?_; rintro e w2 ⟨rfl, rfl⟩
  go_wp2_with fail
  refine (HT.out _).mono ?_; rintro e w2 ⟨rfl, hb2⟩
  have hk := keep1 hb2 ⟨c0, c1, f0, f1, hz, hbw⟩
  clear c0 c1 f0 f1 hz hbw hb2
  obtain ⟨c0, c1, f0, f1, hz, hbw⟩ := hk
  go_wp2_with fail
  refine (HL.out _).mono ?_; rintro e w4 ⟨rfl, rfl⟩
  go_wp2_with fail
  refine ((HR2.out _ (he.stays (by assumption))).mono ?_); rintro e w5 ⟨rfl, hb5⟩
  have hk := keep1 hb5 ⟨c0, c1, f0, f1, hz, hbw⟩
  clear c0 c1 f0 f1 hz hbw hb5
  obtain ⟨c0, c1, f0, f1, hz, hbw⟩ := hk
  go_wp2_with fail
  go_loopg [84] bB.size (fun k u wr => ∃ (j : Nat) (y : Int), k = j ∧ j ≤ 18 ∧ R y ∧ wr.cell? ⟨w5.heap.size, 0, none⟩ = some (.int .i64 y) ∧ wr.cell? ⟨w5.heap.size, 1, none⟩ = some (.int .i64 j) ∧ wr.frozen? ⟨w5.heap.size, 0, none⟩ = false ∧ wr.frozen? ⟨w5.heap.size, 1, none⟩ = false ∧ wr.cell? ⟨w.heap.size, 0, none⟩ = some (.int .i64 0) ∧ wr.cell? ⟨w.heap.size, 1, none⟩ = some (.int .i64 0) ∧ wr.frozen? ⟨w.heap.size, 0, none⟩ = false ∧ wr.frozen? ⟨w.heap.size, 1, none⟩ = false ∧ w5.heap.size < wr.heap.size ∧ Hid (norm j y = (rM, rS)) ∧ Below w.heap.size w wr)
  case atStart =>
    refine ⟨bB.size, n, rfl, h8, hn, by simp [go_sem], by simp [go_sem], by simp [go_sem], by simp [go_sem], by simp [go_sem, *], by simp [go_sem, *], by simp [go_sem, *], by simp [go_sem, *], by simp, HN, ?_⟩
    go_grown
  case round =>
    obtain ⟨j, y, rfl, hj, hy, a0, a1, b0, b1, c0', c1', f0', f1', hz', HY, hbw'⟩ := hrel
    have hlt : ¬ w5.heap.size = w.heap.size := by omega
    clear c0 c1 f0 f1 hbw
    obtain ⟨y1, y2⟩ := hy
    by_cases hj0 : gk = 0
    · subst hj0
      have hend : rM = y ∧ rS = 0 := by have := HY.out; rw [norm] at this; exact ⟨congrArg Prod.fst this.symm, congrArg Prod.snd this.symm⟩
      obtain ⟨rfl, rfl⟩ := hend
      go_wp2_with fail
      refine bodyPost_ret (v := .tuple #[.agg #[.int .i64 rM, .int .i64 ((0 : Nat) : Int)], .int .i64 0]) (by simp [results, Tryz.results55, go_sem, *]) rfl ⟨rfl, ?_⟩
      go_grown
    · obtain ⟨i, rfl⟩ : ∃ i, gk = i + 1 := ⟨gk - 1, by omega⟩
      by_cases hm : y % 10 = 0
      · have ht : (y.tmod 10 == 0) = true := by rw [beq_iff_eq]; exact (tmod_zero y).2 hm
        obtain ⟨z, hq⟩ : ∃ z, y.tdiv 10 = z := ⟨_, rfl⟩
        have hqz : z = y / 10 := by rw [← hq, Int.tdiv_eq_ediv_of_dvd (Int.dvd_of_emod_eq_zero hm)]
        have HY2 : Hid (norm i z = (rM, rS)) := Lib.hid (by have := HY.out; rw [norm, if_pos hm, ← hqz] at this; exact this)
        have zb : -9223372036854775808 ≤ z ∧ z ≤ 9223372036854775807 := by omega
        obtain ⟨z1, z2⟩ := zb
        clear hqz hm hj0
        go_wp2_with fail
        go_roundg i
        case measure => omega
        case rel =>
          refine ⟨i, z, rfl, by omega, ⟨z1, z2⟩, by simp [go_sem, *], by simp [go_sem, *], by simp [go_sem, *], by simp [go_sem, *], by simp [go_sem, *], by simp [go_sem, *], by simp [go_sem, *], by simp [go_sem, *], by simpa using hz', HY2, ?_⟩
          go_grown
      · have ht : (y.tmod 10 == 0) = false := by rw [beq_eq_false_iff_ne]; exact fun h => hm ((tmod_zero y).1 h)
        have hend : rM = y ∧ rS = i + 1 := by have := HY.out; rw [norm, if_neg hm] at this; exact ⟨congrArg Prod.fst this.symm, congrArg Prod.snd this.symm⟩
        obtain ⟨rfl, rfl⟩ := hend
        clear hm hj0
        go_wp2_with fail
        refine bodyPost_ret (v := .tuple #[.agg #[.int .i64 rM, .int .i64 ((i : Int) + 1)], .int .i64 0]) (by simp [results, Tryz.results55, go_sem, *]) rfl ⟨rfl, ?_⟩
        go_grown
end Go.Proofs.YtjhgiojmlkeccaaGreatDoor
namespace Go.Proofs.YtjhgiojmlkeccaaGreatDoor
open Go.RowKit
theorem num_drop0 : ∀ l : List UInt8, num (l.dropWhile (· == 48)) = num l
  | [] => rfl
  | c :: l => by
    by_cases h : c = 48
    · subst h
      rw [List.dropWhile_cons_of_pos (by rfl), num_drop0 l]
      have := num_zeros 1 l
      exact this.symm
    · rw [List.dropWhile_cons_of_neg (by simpa using h)]
theorem ok_drop0 (l : List UInt8) (h : l.all isDig = true) (hz : l.dropWhile (· == 48) ≠ []) : okDigits (l.dropWhile (· == 48)) = true := by
  have ha : (l.dropWhile (· == 48)).all isDig = true := List.all_eq_true.2 fun x hx => List.all_eq_true.1 h x ((List.dropWhile_sublist _).subset hx)
  have hh := List.head_dropWhile_not (p := (· == (48 : UInt8))) (l := l) hz
  generalize l.dropWhile (· == 48) = z at *
  obtain ⟨c, r, rfl⟩ : ∃ c r, z = c :: r := by
    cases z with
    | nil => exact absurd rfl hz
    | cons c r => exact ⟨c, r, rfl⟩
  unfold okDigits digitsB
  rw [ha]
  simp only [List.head_cons] at hh
  have : ((c :: r).head? == some 48) = false := by
    simp only [List.head?_cons]
    rw [beq_eq_false_iff_ne] at hh ⊢
    simpa using hh
  rw [this]; rfl
theorem ok_below (l : List UInt8) (h : okDigits l = true) : below l = false := by
  cases l with
  | nil => rfl
  | cons c r =>
    simp only [okDigits, digitsB, Bool.and_eq_true, List.all_cons] at h
    exact dig_dash h.1.1.1
theorem body_id (l : List UInt8) (h : below l = false) : body l = l := by unfold body; rw [h]; rfl
theorem okd_all (l : List UInt8) (h : okDigits l = true) : l.all isDig = true := by
  simp only [okDigits, digitsB, Bool.and_eq_true] at h; exact h.1.1
theorem rdE_bad (l : List UInt8) (h : okDigits (body l) = false) : rdE l = 21 := by unfold rdE; rw [h]; rfl
theorem rdE_fine (l : List UInt8) (h : okDigits (body l) = true) : (rdE l == 21) = false := by
  unfold rdE err; rw [h]; simp only [if_true, beq_eq_false_iff_ne]; split <;> omega
theorem p_bad (l : List UInt8) (h : parseOk l = false) : pM l = 0 ∧ pS l = 0 ∧ pE l = 140 := by
  unfold pM pS pE; rw [h]; exact ⟨rfl, rfl, rfl⟩
theorem p_fine (l : List UInt8) (h : parseOk l = true) : pM l = (norm (back (body l)).length (pN l)).1 ∧ pS l = ((norm (back (body l)).length (pN l)).2 : Nat) ∧ pE l = 0 := by
  unfold pM pS pE; rw [h]; exact ⟨rfl, rfl, rfl⟩
theorem p_zero (l : List UInt8) (h : parseOk l = true) (h0 : pN l = 0) : pM l = 0 ∧ pS l = 0 ∧ pE l = 0 := by
  obtain ⟨h1, h2, h3⟩ := p_fine l h
  rw [h1, h2, h3, h0, norm_zero]; exact ⟨rfl, rfl, rfl⟩
theorem toList_mk (l : List UInt8) : (⟨l.toArray⟩ : ByteArray).toList = l := by rw [ByteArray.toList_eq]
theorem size_mk (l : List UInt8) : (⟨l.toArray⟩ : ByteArray).size = l.length := by show l.toArray.size = _; simp
theorem front_len (l : List UInt8) : (front l).length ≤ l.length := (List.takeWhile_sublist _).length_le
theorem back_len (l : List UInt8) : (back l).length ≤ l.length := by
  unfold back
  have := (List.dropWhile_sublist (p := (· != (46 : UInt8))) (l := l)).length_le
  rw [List.length_tail]; omega
theorem rd_pos (z : List UInt8) (h : okDigits z = true) : rdV z = val (num z) ∧ rdE z = err (num z) := by
  have hb := ok_below z h
  unfold rdV rdE signed
  rw [body_id z hb, h, hb]; exact ⟨rfl, rfl⟩
theorem rd_neg (z : List UInt8) (h : okDigits z = true) : rdV (45 :: z) = val (-(num z : Int)) ∧ rdE (45 :: z) = err (-(num z : Int)) := by
  unfold rdV rdE signed
  have e : body (45 :: z) = z := rfl
  have e2 : below (45 :: z) = true := rfl
  rw [e, e2, h]; exact ⟨rfl, rfl⟩
theorem err_ne {n : Int} (h : inR n = false) : (err n != 0) = true := by
  rw [err_out (fun q => by rw [(inR_iff n).2 q] at h; cases h)]; rfl
theorem mparse_any (s : ByteArray) (hs : s.size ≤ 1000000) (w : World) (he : Env w) :
    Calls Tryz.prog 55 #[.string s] w fun e w' => e = .returned (.tuple #[.agg #[.int .i64 (pM s.data.toList), .int .i64 (pS s.data.toList)], .int .i64 (pE s.data.toList)]) ∧ Below w.heap.size w w' := by
  obtain ⟨l, hl⟩ : ∃ l, s.data.toList = l := ⟨_, rfl⟩
  rw [hl]
  have hll : l.length ≤ 1000000 := by rw [← hl, Array.length_toList]; exact hs
  have hbl := body_len l
  have hfl := front_len (body l)
  have hkl := back_len (body l)
  have HC := Lib.hid (fun w => cut_dash s ⟨(body l).toArray⟩ (below l) (by rw [hl]) (by rw [hl]) w)
  have HK := Lib.hid (fun w => cut_one ⟨(body l).toArray⟩ 46 (by rw [size_mk]; unfold maxLen; omega) w)
  have HR := Lib.hid (fun w he => read_any ⟨(front (body l)).toArray⟩ (by rw [size_mk]; omega) w he)
  have HP := Lib.hid (fun w => (Tryz.strings_HasPrefix ⟨(front (body l)).toArray⟩ ⟨#[45]⟩ w).mono fun e w' ⟨a, b⟩ => (⟨a, b.symm⟩ : _ ∧ w = w'))
  rw [show (⟨(front (body l)).toArray⟩ : ByteArray).data.toList = front (body l) from rfl, show (⟨#[45]⟩ : ByteArray).data.toList = [45] from rfl, hasPrefix_dash] at HP
  rw [show (⟨(front (body l)).toArray⟩ : ByteArray).data.toList = front (body l) from rfl] at HR
  rw [show (⟨(body l).toArray⟩ : ByteArray).data.toList = body l from rfl, show (ahead 46 (body l)) = front (body l) from rfl, show (behind 46 (body l)) = back (body l) from rfl, show ((body l).contains 46) = point (body l) from rfl] at HK
  have hok : parseOk l = (okDigits (front (body l)) && (!point (body l) || okBack (back (body l))) && inR (pN l)) := rfl
  have hpN : pN l = if below l then -(num (front (body l) ++ back (body l)) : Int) else num (front (body l) ++ back (body l)) := rfl
  have hpm := p_fine l
  have hpz := p_zero l
  have hpb := p_bad l
  have hfn := front_none (body l)
  generalize pN l = N at *
  generalize parseOk l = ok at *
  generalize pM l = rM at *
  generalize pS l = rS at *
  generalize pE l = rE at *
  generalize front (body l) = f at *
  generalize back (body l) = b at *
  generalize point (body l) = pt at *
  generalize below l = bl at *
  cases h1 : okDigits (body f) with
  | false =>
    have hf : okDigits f = false := by
      cases q : okDigits f with
      | false => rfl
      | true => rw [body_id f (ok_below f q), q] at h1; cases h1
    rw [hf] at hok
    obtain ⟨rfl, rfl, rfl⟩ := hpb hok
    exact parse_e1 s _ _ _ _ _ _ _ w he HC HK HR (by rw [rdE_bad f h1]; rfl)
  | true =>
    have hE := rdE_fine f h1
    cases h2 : below f with
    | true =>
      have hf : okDigits f = false := by
        cases q : okDigits f with
        | false => rfl
        | true => rw [ok_below f q] at h2; cases h2
      rw [hf] at hok
      obtain ⟨rfl, rfl, rfl⟩ := hpb hok
      rw [h2] at HP
      exact parse_e2 s _ _ _ _ _ _ _ w he HC HK HR hE HP
    | false =>
      rw [body_id f h2] at h1
      rw [h2] at HP
      rw [h1, Bool.true_and] at hok
      have hfa := okd_all f h1
      cases hpt : pt with
      | false =>
        subst hpt
        have hb0 : b = [] := (hfn rfl).2
        rw [Bool.not_false, Bool.true_or, Bool.true_and] at hok
        have hba : b.all isDig = true := by rw [hb0]; rfl
        have hb18 : b.length ≤ 18 := by rw [hb0]; decide
        obtain ⟨z, hz⟩ : ∃ z, (f ++ b).dropWhile (· == 48) = z := ⟨_, rfl⟩
        have hzn : num z = num (f ++ b) := by rw [← hz, num_drop0]
        have hzl : z.length ≤ f.length + b.length := by
          have := (List.dropWhile_sublist (p := (· == (48 : UInt8))) (l := f ++ b)).length_le
          rw [hz, List.length_append] at this; exact this
        have HL : Hid (∀ w, Calls Tryz.prog 89 #[.string (⟨f.toArray⟩ ++ ⟨b.toArray⟩), .string ⟨#[48]⟩] w fun e w' => e = .returned (.string ⟨z.toArray⟩) ∧ w' = w) := Lib.hid fun w => by
          rw [cat]
          have := Tryz.strings_TrimLeft_one ⟨(f ++ b).toArray⟩ 48 (by decide) w
          rw [show Lib.trimLeftB (⟨(f ++ b).toArray⟩ : ByteArray).data.toList 48 = z from hz] at this
          exact this
        have hfs : (⟨f.toArray⟩ : ByteArray).size ≤ 140737488355328 := by rw [size_mk]; omega
        have hbs : (⟨b.toArray⟩ : ByteArray).size ≤ 140737488355328 := by rw [size_mk]; omega
        rw [← hzn] at hpN
        by_cases hz0 : z = []
        · subst hz0
          have hN : N = 0 := by rw [hpN]; cases bl <;> rfl
          have hi : inR N = true := by rw [hN]; rfl
          rw [hi] at hok
          obtain ⟨rfl, rfl, rfl⟩ := hpz hok hN
          exact parse_z_np s _ _ _ _ _ _ _ w he HC HK HR hE HP rfl hfs hbs _ HL (by rw [toList_mk]) (by rw [toList_mk]; rfl)
        · have hzo : okDigits z = true := by rw [← hz]; exact ok_drop0 _ (by rw [List.all_append, hfa, hba]; rfl) (by rw [hz]; exact hz0)
          have hz1 : ¬ (⟨z.toArray⟩ : ByteArray).toList = [] := by rw [toList_mk]; exact hz0
          have hz2 : (⟨z.toArray⟩ : ByteArray).toList.isEmpty = false := by rw [toList_mk]; simpa using hz0
          have hzs : (⟨z.toArray⟩ : ByteArray).size ≤ 281474976710656 := by rw [size_mk]; omega
          cases bl with
          | false =>
            simp only [Bool.false_eq_true, if_false] at hpN
            obtain ⟨r1, r2⟩ := rd_pos z hzo
            rw [← hpN] at r1 r2
            have HR2 := Lib.hid (fun w he => read_any ⟨z.toArray⟩ hzs w he)
            rw [show (⟨z.toArray⟩ : ByteArray).data.toList = z from rfl, r1, r2] at HR2
            cases hi : inR N with
            | false =>
              rw [hi] at hok
              obtain ⟨rfl, rfl, rfl⟩ := hpb hok
              exact parse_o_np_false s _ _ _ _ _ _ _ w he HC HK HR hE HP rfl hfs hbs _ HL rfl hz1 hz2 hzs _ _ HR2 (err_ne hi)
            | true =>
              rw [hi] at hok
              have hr := (inR_iff N).1 hi
              obtain ⟨rfl, rfl, rfl⟩ := hpm hok
              rw [val_in hr, err_in hr] at HR2
              exact parse_m_np_false s _ _ _ _ _ _ _ w he HC HK HR hE HP rfl hfs hbs _ HL rfl hz1 hz2 hzs _ _ HR2 rfl hr (by rw [size_mk]; omega) _ _ (Lib.hid (by rw [size_mk]))
          | true =>
            simp only [if_true] at hpN
            obtain ⟨r1, r2⟩ := rd_neg z hzo
            rw [← hpN] at r1 r2
            have HR2 : Hid (∀ w, Env w → Calls Tryz.prog 86 #[.string (⟨#[45]⟩ ++ ⟨z.toArray⟩)] w fun e' w' => e' = .returned (.tuple #[.int .i64 (val N), .int .i64 (err N)]) ∧ Below w.heap.size w w') := Lib.hid fun w he => by
              have := read_any ⟨(45 :: z).toArray⟩ (by rw [size_mk]; simp; omega) w he
              rw [show (⟨(45 :: z).toArray⟩ : ByteArray).data.toList = 45 :: z from rfl, r1, r2] at this
              rw [show (⟨#[45]⟩ ++ ⟨z.toArray⟩ : ByteArray) = ⟨(45 :: z).toArray⟩ from cat [45] z]
              exact this
            cases hi : inR N with
            | false =>
              rw [hi] at hok
              obtain ⟨rfl, rfl, rfl⟩ := hpb hok
              exact parse_o_np_true s _ _ _ _ _ _ _ w he HC HK HR hE HP rfl hfs hbs _ HL rfl hz1 hz2 hzs _ _ HR2 (err_ne hi)
            | true =>
              rw [hi] at hok
              have hr := (inR_iff N).1 hi
              obtain ⟨rfl, rfl, rfl⟩ := hpm hok
              rw [val_in hr, err_in hr] at HR2
              exact parse_m_np_true s _ _ _ _ _ _ _ w he HC HK HR hE HP rfl hfs hbs _ HL rfl hz1 hz2 hzs _ _ HR2 rfl hr (by rw [size_mk]; omega) _ _ (Lib.hid (by rw [size_mk]))
      | true =>
        subst hpt
        rw [Bool.not_true, Bool.false_or] at hok
        by_cases hb0 : b = []
        · subst hb0
          obtain ⟨rfl, rfl, rfl⟩ := hpb hok
          exact parse_e3 s _ _ _ _ _ _ _ w he HC HK HR hE HP rfl (by rw [toList_mk]) (by rw [toList_mk]; rfl)
        · have h3 : ¬ (⟨b.toArray⟩ : ByteArray).toList = [] := by rw [toList_mk]; exact hb0
          have h4 : (⟨b.toArray⟩ : ByteArray).toList.isEmpty = false := by rw [toList_mk]; simpa using hb0
          by_cases hb18 : b.length ≤ 18
          · have h5 : (⟨b.toArray⟩ : ByteArray).size ≤ 18 := by rw [size_mk]; exact hb18
            have HT := Lib.hid (fun w => trim_any ⟨b.toArray⟩ (by rw [size_mk]; omega) w)
            rw [show (⟨b.toArray⟩ : ByteArray).data.toList = b from rfl] at HT
            cases hba : b.all isDig with
            | false =>
              have hbk : okBack b = false := by unfold okBack digitsB; rw [hba]; rfl
              rw [hbk] at hok
              obtain ⟨rfl, rfl, rfl⟩ := hpb hok
              have ht : ¬ Lib.trimS b [48, 49, 50, 51, 52, 53, 54, 55, 56, 57] = [] := fun q => by rw [(trim_digits b).1 q] at hba; cases hba
              exact parse_e5 s _ _ _ _ _ _ _ w he HC HK HR _ hE HP rfl h3 h4 h5 HT (by rw [toList_mk]; exact ht) (by rw [toList_mk]; simpa using ht)
            | true =>
              have hbk : okBack b = true := by
                unfold okBack digitsB; rw [hba]
                have : b.isEmpty = false := by simpa using hb0
                rw [this]; simpa using hb18
              rw [hbk, Bool.true_and] at hok
              have ht : Lib.trimS b [48, 49, 50, 51, 52, 53, 54, 55, 56, 57] = [] := (trim_digits b).2 hba
              have h6 : (⟨(Lib.trimS b [48, 49, 50, 51, 52, 53, 54, 55, 56, 57]).toArray⟩ : ByteArray).toList = [] := by rw [toList_mk, ht]
              have h7 : (⟨(Lib.trimS b [48, 49, 50, 51, 52, 53, 54, 55, 56, 57]).toArray⟩ : ByteArray).toList.isEmpty = true := by rw [toList_mk, ht]; rfl
              obtain ⟨z, hz⟩ : ∃ z, (f ++ b).dropWhile (· == 48) = z := ⟨_, rfl⟩
              have hzn : num z = num (f ++ b) := by rw [← hz, num_drop0]
              have hzl : z.length ≤ f.length + b.length := by
                have := (List.dropWhile_sublist (p := (· == (48 : UInt8))) (l := f ++ b)).length_le
                rw [hz, List.length_append] at this; exact this
              have HL : Hid (∀ w, Calls Tryz.prog 89 #[.string (⟨f.toArray⟩ ++ ⟨b.toArray⟩), .string ⟨#[48]⟩] w fun e w' => e = .returned (.string ⟨z.toArray⟩) ∧ w' = w) := Lib.hid fun w => by
                rw [cat]
                have := Tryz.strings_TrimLeft_one ⟨(f ++ b).toArray⟩ 48 (by decide) w
                rw [show Lib.trimLeftB (⟨(f ++ b).toArray⟩ : ByteArray).data.toList 48 = z from hz] at this
                exact this
              have hfs : (⟨f.toArray⟩ : ByteArray).size ≤ 140737488355328 := by rw [size_mk]; omega
              have hbs : (⟨b.toArray⟩ : ByteArray).size ≤ 140737488355328 := by rw [size_mk]; omega
              rw [← hzn] at hpN
              by_cases hz0 : z = []
              · subst hz0
                have hN : N = 0 := by rw [hpN]; cases bl <;> rfl
                have hi : inR N = true := by rw [hN]; rfl
                rw [hi] at hok
                obtain ⟨rfl, rfl, rfl⟩ := hpz hok hN
                exact parse_z_pt s _ _ _ _ _ _ _ w he HC HK HR hE HP _ rfl h3 h4 h5 HT h6 h7 hfs hbs _ HL (by rw [toList_mk]) (by rw [toList_mk]; rfl)
              · have hzo : okDigits z = true := by rw [← hz]; exact ok_drop0 _ (by rw [List.all_append, hfa, hba]; rfl) (by rw [hz]; exact hz0)
                have hz1 : ¬ (⟨z.toArray⟩ : ByteArray).toList = [] := by rw [toList_mk]; exact hz0
                have hz2 : (⟨z.toArray⟩ : ByteArray).toList.isEmpty = false := by rw [toList_mk]; simpa using hz0
                have hzs : (⟨z.toArray⟩ : ByteArray).size ≤ 281474976710656 := by rw [size_mk]; omega
                cases bl with
                | false =>
                  simp only [Bool.false_eq_true, if_false] at hpN
                  obtain ⟨r1, r2⟩ := rd_pos z hzo
                  rw [← hpN] at r1 r2
                  have HR2 := Lib.hid (fun w he => read_any ⟨z.toArray⟩ hzs w he)
                  rw [show (⟨z.toArray⟩ : ByteArray).data.toList = z from rfl, r1, r2] at HR2
                  cases hi : inR N with
                  | false =>
                    rw [hi] at hok
                    obtain ⟨rfl, rfl, rfl⟩ := hpb hok
                    exact parse_o_pt_false s _ _ _ _ _ _ _ w he HC HK HR hE HP _ rfl h3 h4 h5 HT h6 h7 hfs hbs _ HL rfl hz1 hz2 hzs _ _ HR2 (err_ne hi)
                  | true =>
                    rw [hi] at hok
                    have hr := (inR_iff N).1 hi
                    obtain ⟨rfl, rfl, rfl⟩ := hpm hok
                    rw [val_in hr, err_in hr] at HR2
                    exact parse_m_pt_false s _ _ _ _ _ _ _ w he HC HK HR hE HP _ rfl h3 h4 h5 HT h6 h7 hfs hbs _ HL rfl hz1 hz2 hzs _ _ HR2 rfl hr (by rw [size_mk]; omega) _ _ (Lib.hid (by rw [size_mk]))
                | true =>
                  simp only [if_true] at hpN
                  obtain ⟨r1, r2⟩ := rd_neg z hzo
                  rw [← hpN] at r1 r2
                  have HR2 : Hid (∀ w, Env w → Calls Tryz.prog 86 #[.string (⟨#[45]⟩ ++ ⟨z.toArray⟩)] w fun e' w' => e' = .returned (.tuple #[.int .i64 (val N), .int .i64 (err N)]) ∧ Below w.heap.size w w') := Lib.hid fun w he => by
                    have := read_any ⟨(45 :: z).toArray⟩ (by rw [size_mk]; simp; omega) w he
                    rw [show (⟨(45 :: z).toArray⟩ : ByteArray).data.toList = 45 :: z from rfl, r1, r2] at this
                    rw [show (⟨#[45]⟩ ++ ⟨z.toArray⟩ : ByteArray) = ⟨(45 :: z).toArray⟩ from cat [45] z]
                    exact this
                  cases hi : inR N with
                  | false =>
                    rw [hi] at hok
                    obtain ⟨rfl, rfl, rfl⟩ := hpb hok
                    exact parse_o_pt_true s _ _ _ _ _ _ _ w he HC HK HR hE HP _ rfl h3 h4 h5 HT h6 h7 hfs hbs _ HL rfl hz1 hz2 hzs _ _ HR2 (err_ne hi)
                  | true =>
                    rw [hi] at hok
                    have hr := (inR_iff N).1 hi
                    obtain ⟨rfl, rfl, rfl⟩ := hpm hok
                    rw [val_in hr, err_in hr] at HR2
                    exact parse_m_pt_true s _ _ _ _ _ _ _ w he HC HK HR hE HP _ rfl h3 h4 h5 HT h6 h7 hfs hbs _ HL rfl hz1 hz2 hzs _ _ HR2 rfl hr (by rw [size_mk]; omega) _ _ (Lib.hid (by rw [size_mk]))
          · have hbk : okBack b = false := by unfold okBack; rw [decide_eq_false hb18, Bool.and_false]
            rw [hbk] at hok
            obtain ⟨rfl, rfl, rfl⟩ := hpb hok
            exact parse_e4 s _ _ _ _ _ _ _ w he HC HK HR hE HP rfl h3 h4 (by rw [size_mk]; omega) (by rw [size_mk]; omega)
end Go.Proofs.YtjhgiojmlkeccaaGreatDoor
namespace Go.Proofs.YtjhgiojmlkeccaaGreatDoor
open Go.RowKit
theorem hp0 (p : ByteArray) (b : Bool) (h : Lib.hasPrefix p.data.toList [48] = b) (w : World) :
    Calls Tryz.prog 87 #[.string p, .string ⟨#[48]⟩] w fun e w' => e = .returned (.bool b) ∧ w = w' :=
  (Tryz.strings_HasPrefix p ⟨#[48]⟩ w).mono fun e w' ⟨a, c⟩ => ⟨by rw [a, show (⟨#[48]⟩ : ByteArray).data.toList = [48] from rfl, h], c.symm⟩
theorem mul1_any (k : Nat) (hk : k ≤ 1000) (w : World) :
    Calls Tryz.prog 137 #[.int .u64 1, .int .u64 k] w fun e w' => e = .returned (.tuple #[.int .u64 0, .int .u64 k]) ∧ w = w' := by
  have H : Hid (∀ w, Calls Tryz.prog 139 #[.int .u64 1, .int .u64 k] w fun e w' => e = .returned (.tuple #[.int .u64 0, .int .u64 k]) ∧ w = w') :=
    Lib.hid fun w => (Tryz.bits_Mul64 1 k (by omega) (by omega) w).mono fun e w' ⟨a, b⟩ => ⟨by rw [a]; exact ret_i2 (by omega) (by omega), b.symm⟩
  go_enter Tryz.func137, Tryz.ntmps137
  go_wp2_with fail
  refine (H.out _).mono ?_; rintro e w1 ⟨rfl, rfl⟩
  go_wp2_with fail
  go_ret2
  exact ⟨rfl, rfl⟩
theorem zeros_fin : ∀ i : Fin 65, (⟨#[48, 48, 48, 48, 48, 48, 48, 48, 48, 48, 48, 48, 48, 48, 48, 48, 48, 48, 48, 48, 48, 48, 48, 48, 48, 48, 48, 48, 48, 48, 48, 48, 48, 48, 48, 48, 48, 48, 48, 48, 48, 48, 48, 48, 48, 48, 48, 48, 48, 48, 48, 48, 48, 48, 48, 48, 48, 48, 48, 48, 48, 48, 48, 48]⟩ : ByteArray).extract 0 i.val = ⟨(List.replicate i.val 48).toArray⟩ := by decide +kernel
set_option maxRecDepth 100000 in
set_option maxHeartbeats 2000000 in
theorem repeat0_any (k : Nat) (hk : k ≤ 40) (w : World) :
    Calls Tryz.prog 91 #[.string ⟨#[48]⟩, .int .i64 k] w fun e w' => e = .returned (.string ⟨(List.replicate k 48).toArray⟩) ∧ w = w' := by
  rcases Nat.lt_trichotomy k 1 with h | h | h
  · obtain rfl : k = 0 := by omega
    go_enter Tryz.func91, Tryz.ntmps91
    go_wp2_with fail
    go_ret
    exact ⟨rfl, rfl⟩
  · subst h
    go_enter Tryz.func91, Tryz.ntmps91
    go_wp2_with fail
    go_ret
    exact ⟨rfl, rfl⟩
  · have H := Lib.hid (fun w => mul1_any k (by omega) w)
    have hz : (⟨#[48, 48, 48, 48, 48, 48, 48, 48, 48, 48, 48, 48, 48, 48, 48, 48, 48, 48, 48, 48, 48, 48, 48, 48, 48, 48, 48, 48, 48, 48, 48, 48, 48, 48, 48, 48, 48, 48, 48, 48, 48, 48, 48, 48, 48, 48, 48, 48, 48, 48, 48, 48, 48, 48, 48, 48, 48, 48, 48, 48, 48, 48, 48, 48]⟩ : ByteArray).extract 0 k = ⟨(List.replicate k 48).toArray⟩ := zeros_fin ⟨k, by omega⟩
    have HZ := Lib.hid hz
    clear hz
    generalize (⟨(List.replicate k 48).toArray⟩ : ByteArray) = zB at *
    have h0 : ((k : Int) == 0) = false := by rw [beq_eq_false_iff_ne]; omega
    have h1 : ((k : Int) == 1) = false := by rw [beq_eq_false_iff_ne]; omega
    go_enter Tryz.func91, Tryz.ntmps91
    go_wp2_with fail
    refine (H.out _).mono ?_; rintro e w1 ⟨rfl, rfl⟩
    go_wp2_with fail
    refine (hp0 _ false (by decide +kernel) _).mono ?_; rintro e w1 ⟨rfl, rfl⟩
    go_wp2_with fail
    refine (hp0 _ false (by decide +kernel) _).mono ?_; rintro e w1 ⟨rfl, rfl⟩
    go_wp2_with fail
    refine (hp0 _ true (by decide +kernel) _).mono ?_; rintro e w1 ⟨rfl, rfl⟩
    go_wp2_with fail
    go_ret
    exact ⟨retB HZ.out, rfl⟩
theorem itoa_parts (m : Int) : below (Lib.itoa m) = decide (m < 0) ∧ body (Lib.itoa m) = Lib.decDigits m.natAbs := by
  by_cases h : m < 0
  · rw [decide_eq_true h]
    have e : Lib.itoa m = 45 :: Lib.decDigits m.natAbs := by unfold Lib.itoa; rw [if_pos h]
    rw [e]; exact ⟨rfl, rfl⟩
  · rw [decide_eq_false h]
    have e : Lib.itoa m = Lib.decDigits m.natAbs := by unfold Lib.itoa; rw [if_neg h, show m.toNat = m.natAbs by omega]
    have hb := dec_notdash m.natAbs
    rw [e]; exact ⟨hb, body_id _ hb⟩
theorem dec_le (m : Int) (hr : R m) : (Lib.decDigits m.natAbs).length ≤ 20 := by
  refine dec_len _ 20 (by omega) ?_
  unfold R at hr
  have : m.natAbs ≤ 9223372036854775808 := by omega
  exact Nat.lt_of_le_of_lt this (by decide)
set_option maxRecDepth 100000 in
set_option maxHeartbeats 1000000 in
theorem mtext_bad (m s : Int) (hm : R m) (hs : R s) (h : may m s = false) (w : World) :
    Calls Tryz.prog 56 #[.agg #[.int .i64 m, .int .i64 s]] w fun e w' => e = .returned (.tuple #[.string ⟨#[]⟩, .int .i64 140]) ∧ Below w.heap.size w w' := by
  have H := Lib.hid (fun w => mcheck_any m s hm hs w)
  rw [show chk m s = 140 by unfold chk; rw [h]; rfl] at H
  clear h hm hs
  go_enter Tryz.func56, Tryz.ntmps56
  go_wp2_with fail
  refine (H.out _).mono ?_; rintro e w1 ⟨rfl, hb1⟩
  go_wp2_with fail
  go_ret2
  refine ⟨rfl, ?_⟩
  refine Below.trans ?_ (hb1.mono (by simp))
  go_grown
theorem ret_t {a b : ByteArray} {n : Int} (h : a = b) : Ending.returned (.tuple #[.string a, .int .i64 n]) = .returned (.tuple #[.string b, .int .i64 n]) := by rw [h]
set_option maxRecDepth 100000 in
set_option maxHeartbeats 1000000 in
theorem mtext_0p (m s : Int) (iB dB zB : ByteArray) (w : World)
    (H : Hid (∀ w, Calls Tryz.prog 90 #[.agg #[.int .i64 m, .int .i64 s]] w fun e w' => e = .returned (.int .i64 0) ∧ Below w.heap.size w w'))
    (HW : Hid (∀ w, EnvT w → Calls Tryz.prog 49 #[.int .i64 m] w fun e w' => e = .returned (.string iB) ∧ Below w.heap.size w w'))
    (HC : Hid (∀ w, Calls Tryz.prog 84 #[.string iB, .string ⟨#[45]⟩] w fun e w' => e = .returned (.tuple #[.string dB, .bool false]) ∧ w = w'))
    (HZ : Hid (∀ w, Calls Tryz.prog 91 #[.string ⟨#[48]⟩, .int .i64 0] w fun e w' => e = .returned (.string zB) ∧ w = w'))
    (he : EnvT w) (hd : dB.size ≤ 20) (hz : zB.size = 0) (hp : s + 1 - dB.size ≤ 0) (s0 : s = 0) (tB : ByteArray) (HT : Hid ((zB ++ dB) = tB)) :
    Calls Tryz.prog 56 #[.agg #[.int .i64 m, .int .i64 s]] w fun e w' => e = .returned (.tuple #[.string tB, .int .i64 0]) ∧ Below w.heap.size w w' := by
  subst s0
  have hzk : (zB.size : Int) ≤ 18 := by omega
  have HZ0 := Lib.hid hz
  clear hz
  have hmx : max (0 : Int) (1 - dB.size) = 0 := by omega
  go_enter Tryz.func56, Tryz.ntmps56
  go_wp2_with fail
  refine (H.out _).mono ?_; rintro e w1 ⟨rfl, hb1⟩
  obtain ⟨c0, c1, f0, f1, hz1, hbw⟩ := own2 hb1
  go_wp2_with fail
  refine ((HW.out _ (he.stays hbw)).mono ?_); rintro e w2 ⟨rfl, hb2⟩
  have hk2 := keep1 hb2 ⟨c0, c1, f0, f1, hz1, hbw⟩
  clear c0 c1 f0 f1 hz1 hbw hb1 hb2
  obtain ⟨c0, c1, f0, f1, hz1, hbw⟩ := hk2
  go_wp2_with fail
  refine (HC.out _).mono ?_; rintro e w3 ⟨rfl, rfl⟩
  go_wp2_with fail
  refine (HZ.out _).mono ?_; rintro e w3 ⟨rfl, rfl⟩
  go_wp2_with fail
  go_ret2
  refine ⟨ret_t ?_, ?_⟩
  · exact HT.out
  · exact hbw
set_option maxRecDepth 100000 in
set_option maxHeartbeats 1000000 in
theorem mtext_1p (m s : Int) (iB dB zB : ByteArray) (k : Nat) (w : World)
    (H : Hid (∀ w, Calls Tryz.prog 90 #[.agg #[.int .i64 m, .int .i64 s]] w fun e w' => e = .returned (.int .i64 0) ∧ Below w.heap.size w w'))
    (HW : Hid (∀ w, EnvT w → Calls Tryz.prog 49 #[.int .i64 m] w fun e w' => e = .returned (.string iB) ∧ Below w.heap.size w w'))
    (HC : Hid (∀ w, Calls Tryz.prog 84 #[.string iB, .string ⟨#[45]⟩] w fun e w' => e = .returned (.tuple #[.string dB, .bool false]) ∧ w = w'))
    (HZ : Hid (∀ w, Calls Tryz.prog 91 #[.string ⟨#[48]⟩, .int .i64 k] w fun e w' => e = .returned (.string zB) ∧ w = w'))
    (he : EnvT w) (hd : dB.size ≤ 20) (hz : zB.size ≤ 18) (hk : k ≤ 18) (hp : s + 1 - dB.size = k) (s0 : 0 < s) (s1 : s ≤ 18) (n : Nat) (hn : (zB.size : Int) + dB.size - s = n) (hn2 : n ≤ zB.size + dB.size) (tB : ByteArray) (HT : Hid ((zB ++ dB).extract 0 n ++ ⟨#[46]⟩ ++ (zB ++ dB).extract n (zB.size + dB.size) = tB)) :
    Calls Tryz.prog 56 #[.agg #[.int .i64 m, .int .i64 s]] w fun e w' => e = .returned (.tuple #[.string tB, .int .i64 0]) ∧ Below w.heap.size w w' := by
  have hzk : (zB.size : Int) ≤ 18 := by omega
  have n1 : (n : Int) ≤ (zB.size : Int) + dB.size := by omega
  have n2 : (n : Int) ≤ 40 := by omega
  go_enter Tryz.func56, Tryz.ntmps56
  go_wp2_with fail
  refine (H.out _).mono ?_; rintro e w1 ⟨rfl, hb1⟩
  obtain ⟨c0, c1, f0, f1, hz1, hbw⟩ := own2 hb1
  go_wp2_with fail
  refine ((HW.out _ (he.stays hbw)).mono ?_); rintro e w2 ⟨rfl, hb2⟩
  have hk2 := keep1 hb2 ⟨c0, c1, f0, f1, hz1, hbw⟩
  clear c0 c1 f0 f1 hz1 hbw hb1 hb2
  obtain ⟨c0, c1, f0, f1, hz1, hbw⟩ := hk2
  go_wp2_with fail
  refine (HC.out _).mono ?_; rintro e w3 ⟨rfl, rfl⟩
  go_wp2_with fail
  refine (HZ.out _).mono ?_; rintro e w3 ⟨rfl, rfl⟩
  go_wp2_with fail
  go_quiet (fail)
  go_wp2_with fail
  go_ret2
  refine ⟨ret_t ?_, ?_⟩
  · exact HT.out
  · exact below_drawN _ hbw
set_option maxRecDepth 100000 in
set_option maxHeartbeats 1000000 in
theorem mtext_2p (m s : Int) (iB dB zB : ByteArray) (w : World)
    (H : Hid (∀ w, Calls Tryz.prog 90 #[.agg #[.int .i64 m, .int .i64 s]] w fun e w' => e = .returned (.int .i64 0) ∧ Below w.heap.size w w'))
    (HW : Hid (∀ w, EnvT w → Calls Tryz.prog 49 #[.int .i64 m] w fun e w' => e = .returned (.string iB) ∧ Below w.heap.size w w'))
    (HC : Hid (∀ w, Calls Tryz.prog 84 #[.string iB, .string ⟨#[45]⟩] w fun e w' => e = .returned (.tuple #[.string dB, .bool false]) ∧ w = w'))
    (HZ : Hid (∀ w, Calls Tryz.prog 91 #[.string ⟨#[48]⟩, .int .i64 0] w fun e w' => e = .returned (.string zB) ∧ w = w'))
    (he : EnvT w) (hd : dB.size ≤ 20) (hz : zB.size = 0) (hp : s + 1 - dB.size ≤ 0) (s0 : 0 < s) (s1 : s ≤ 18) (n : Nat) (hn : (zB.size : Int) + dB.size - s = n) (hn2 : n ≤ zB.size + dB.size) (tB : ByteArray) (HT : Hid ((zB ++ dB).extract 0 n ++ ⟨#[46]⟩ ++ (zB ++ dB).extract n (zB.size + dB.size) = tB)) :
    Calls Tryz.prog 56 #[.agg #[.int .i64 m, .int .i64 s]] w fun e w' => e = .returned (.tuple #[.string tB, .int .i64 0]) ∧ Below w.heap.size w w' := by
  have hzk : (zB.size : Int) ≤ 18 := by omega
  have HZ0 := Lib.hid hz
  clear hz
  have hmx : max (0 : Int) (s + 1 - dB.size) = 0 := by omega
  have n1 : (n : Int) ≤ (zB.size : Int) + dB.size := by omega
  have n2 : (n : Int) ≤ 40 := by omega
  go_enter Tryz.func56, Tryz.ntmps56
  go_wp2_with fail
  refine (H.out _).mono ?_; rintro e w1 ⟨rfl, hb1⟩
  obtain ⟨c0, c1, f0, f1, hz1, hbw⟩ := own2 hb1
  go_wp2_with fail
  refine ((HW.out _ (he.stays hbw)).mono ?_); rintro e w2 ⟨rfl, hb2⟩
  have hk2 := keep1 hb2 ⟨c0, c1, f0, f1, hz1, hbw⟩
  clear c0 c1 f0 f1 hz1 hbw hb1 hb2
  obtain ⟨c0, c1, f0, f1, hz1, hbw⟩ := hk2
  go_wp2_with fail
  refine (HC.out _).mono ?_; rintro e w3 ⟨rfl, rfl⟩
  go_wp2_with fail
  refine (HZ.out _).mono ?_; rintro e w3 ⟨rfl, rfl⟩
  go_wp2_with fail
  go_quiet (fail)
  go_wp2_with fail
  go_ret2
  refine ⟨ret_t ?_, ?_⟩
  · exact HT.out
  · exact below_drawN _ hbw
set_option maxRecDepth 100000 in
set_option maxHeartbeats 1000000 in
theorem mtext_0n (m s : Int) (iB dB zB : ByteArray) (w : World)
    (H : Hid (∀ w, Calls Tryz.prog 90 #[.agg #[.int .i64 m, .int .i64 s]] w fun e w' => e = .returned (.int .i64 0) ∧ Below w.heap.size w w'))
    (HW : Hid (∀ w, EnvT w → Calls Tryz.prog 49 #[.int .i64 m] w fun e w' => e = .returned (.string iB) ∧ Below w.heap.size w w'))
    (HC : Hid (∀ w, Calls Tryz.prog 84 #[.string iB, .string ⟨#[45]⟩] w fun e w' => e = .returned (.tuple #[.string dB, .bool true]) ∧ w = w'))
    (HZ : Hid (∀ w, Calls Tryz.prog 91 #[.string ⟨#[48]⟩, .int .i64 0] w fun e w' => e = .returned (.string zB) ∧ w = w'))
    (he : EnvT w) (hd : dB.size ≤ 20) (hz : zB.size = 0) (hp : s + 1 - dB.size ≤ 0) (s0 : s = 0) (tB : ByteArray) (HT : Hid (⟨#[45]⟩ ++ (zB ++ dB) = tB)) :
    Calls Tryz.prog 56 #[.agg #[.int .i64 m, .int .i64 s]] w fun e w' => e = .returned (.tuple #[.string tB, .int .i64 0]) ∧ Below w.heap.size w w' := by
  subst s0
  have hzk : (zB.size : Int) ≤ 18 := by omega
  have HZ0 := Lib.hid hz
  clear hz
  have hmx : max (0 : Int) (1 - dB.size) = 0 := by omega
  go_enter Tryz.func56, Tryz.ntmps56
  go_wp2_with fail
  refine (H.out _).mono ?_; rintro e w1 ⟨rfl, hb1⟩
  obtain ⟨c0, c1, f0, f1, hz1, hbw⟩ := own2 hb1
  go_wp2_with fail
  refine ((HW.out _ (he.stays hbw)).mono ?_); rintro e w2 ⟨rfl, hb2⟩
  have hk2 := keep1 hb2 ⟨c0, c1, f0, f1, hz1, hbw⟩
  clear c0 c1 f0 f1 hz1 hbw hb1 hb2
  obtain ⟨c0, c1, f0, f1, hz1, hbw⟩ := hk2
  go_wp2_with fail
  refine (HC.out _).mono ?_; rintro e w3 ⟨rfl, rfl⟩
  go_wp2_with fail
  refine (HZ.out _).mono ?_; rintro e w3 ⟨rfl, rfl⟩
  go_wp2_with fail
  go_ret2
  refine ⟨ret_t ?_, ?_⟩
  · exact HT.out
  · exact hbw
set_option maxRecDepth 100000 in
set_option maxHeartbeats 1000000 in
theorem mtext_1n (m s : Int) (iB dB zB : ByteArray) (k : Nat) (w : World)
    (H : Hid (∀ w, Calls Tryz.prog 90 #[.agg #[.int .i64 m, .int .i64 s]] w fun e w' => e = .returned (.int .i64 0) ∧ Below w.heap.size w w'))
    (HW : Hid (∀ w, EnvT w → Calls Tryz.prog 49 #[.int .i64 m] w fun e w' => e = .returned (.string iB) ∧ Below w.heap.size w w'))
    (HC : Hid (∀ w, Calls Tryz.prog 84 #[.string iB, .string ⟨#[45]⟩] w fun e w' => e = .returned (.tuple #[.string dB, .bool true]) ∧ w = w'))
    (HZ : Hid (∀ w, Calls Tryz.prog 91 #[.string ⟨#[48]⟩, .int .i64 k] w fun e w' => e = .returned (.string zB) ∧ w = w'))
    (he : EnvT w) (hd : dB.size ≤ 20) (hz : zB.size ≤ 18) (hk : k ≤ 18) (hp : s + 1 - dB.size = k) (s0 : 0 < s) (s1 : s ≤ 18) (n : Nat) (hn : (zB.size : Int) + dB.size - s = n) (hn2 : n ≤ zB.size + dB.size) (tB : ByteArray) (HT : Hid (⟨#[45]⟩ ++ ((zB ++ dB).extract 0 n ++ ⟨#[46]⟩ ++ (zB ++ dB).extract n (zB.size + dB.size)) = tB)) :
    Calls Tryz.prog 56 #[.agg #[.int .i64 m, .int .i64 s]] w fun e w' => e = .returned (.tuple #[.string tB, .int .i64 0]) ∧ Below w.heap.size w w' := by
  have hzk : (zB.size : Int) ≤ 18 := by omega
  have n1 : (n : Int) ≤ (zB.size : Int) + dB.size := by omega
  have n2 : (n : Int) ≤ 40 := by omega
  go_enter Tryz.func56, Tryz.ntmps56
  go_wp2_with fail
  refine (H.out _).mono ?_; rintro e w1 ⟨rfl, hb1⟩
  obtain ⟨c0, c1, f0, f1, hz1, hbw⟩ := own2 hb1
  go_wp2_with fail
  refine ((HW.out _ (he.stays hbw)).mono ?_); rintro e w2 ⟨rfl, hb2⟩
  have hk2 := keep1 hb2 ⟨c0, c1, f0, f1, hz1, hbw⟩
  clear c0 c1 f0 f1 hz1 hbw hb1 hb2
  obtain ⟨c0, c1, f0, f1, hz1, hbw⟩ := hk2
  go_wp2_with fail
  refine (HC.out _).mono ?_; rintro e w3 ⟨rfl, rfl⟩
  go_wp2_with fail
  refine (HZ.out _).mono ?_; rintro e w3 ⟨rfl, rfl⟩
  go_wp2_with fail
  go_quiet (fail)
  go_wp2_with fail
  go_ret2
  refine ⟨ret_t ?_, ?_⟩
  · exact HT.out
  · exact below_drawN _ hbw
set_option maxRecDepth 100000 in
set_option maxHeartbeats 1000000 in
theorem mtext_2n (m s : Int) (iB dB zB : ByteArray) (w : World)
    (H : Hid (∀ w, Calls Tryz.prog 90 #[.agg #[.int .i64 m, .int .i64 s]] w fun e w' => e = .returned (.int .i64 0) ∧ Below w.heap.size w w'))
    (HW : Hid (∀ w, EnvT w → Calls Tryz.prog 49 #[.int .i64 m] w fun e w' => e = .returned (.string iB) ∧ Below w.heap.size w w'))
    (HC : Hid (∀ w, Calls Tryz.prog 84 #[.string iB, .string ⟨#[45]⟩] w fun e w' => e = .returned (.tuple #[.string dB, .bool true]) ∧ w = w'))
    (HZ : Hid (∀ w, Calls Tryz.prog 91 #[.string ⟨#[48]⟩, .int .i64 0] w fun e w' => e = .returned (.string zB) ∧ w = w'))
    (he : EnvT w) (hd : dB.size ≤ 20) (hz : zB.size = 0) (hp : s + 1 - dB.size ≤ 0) (s0 : 0 < s) (s1 : s ≤ 18) (n : Nat) (hn : (zB.size : Int) + dB.size - s = n) (hn2 : n ≤ zB.size + dB.size) (tB : ByteArray) (HT : Hid (⟨#[45]⟩ ++ ((zB ++ dB).extract 0 n ++ ⟨#[46]⟩ ++ (zB ++ dB).extract n (zB.size + dB.size)) = tB)) :
    Calls Tryz.prog 56 #[.agg #[.int .i64 m, .int .i64 s]] w fun e w' => e = .returned (.tuple #[.string tB, .int .i64 0]) ∧ Below w.heap.size w w' := by
  have hzk : (zB.size : Int) ≤ 18 := by omega
  have HZ0 := Lib.hid hz
  clear hz
  have hmx : max (0 : Int) (s + 1 - dB.size) = 0 := by omega
  have n1 : (n : Int) ≤ (zB.size : Int) + dB.size := by omega
  have n2 : (n : Int) ≤ 40 := by omega
  go_enter Tryz.func56, Tryz.ntmps56
  go_wp2_with fail
  refine (H.out _).mono ?_; rintro e w1 ⟨rfl, hb1⟩
  obtain ⟨c0, c1, f0, f1, hz1, hbw⟩ := own2 hb1
  go_wp2_with fail
  refine ((HW.out _ (he.stays hbw)).mono ?_); rintro e w2 ⟨rfl, hb2⟩
  have hk2 := keep1 hb2 ⟨c0, c1, f0, f1, hz1, hbw⟩
  clear c0 c1 f0 f1 hz1 hbw hb1 hb2
  obtain ⟨c0, c1, f0, f1, hz1, hbw⟩ := hk2
  go_wp2_with fail
  refine (HC.out _).mono ?_; rintro e w3 ⟨rfl, rfl⟩
  go_wp2_with fail
  refine (HZ.out _).mono ?_; rintro e w3 ⟨rfl, rfl⟩
  go_wp2_with fail
  go_quiet (fail)
  go_wp2_with fail
  go_ret2
  refine ⟨ret_t ?_, ?_⟩
  · exact HT.out
  · exact below_drawN _ hbw
end Go.Proofs.YtjhgiojmlkeccaaGreatDoor
namespace Go.Proofs.YtjhgiojmlkeccaaGreatDoor
open Go.RowKit
def tx (m s : Int) : List UInt8 := if may m s then txt m s.toNat else []
theorem ext_mk (l : List UInt8) (a b : Nat) : (⟨l.toArray⟩ : ByteArray).extract a b = ⟨((l.drop a).take (b - a)).toArray⟩ :=
  bytes_ext (Lib.extract_data _ _ _)
theorem cat3 (a b c : List UInt8) : (⟨a.toArray⟩ ++ ⟨b.toArray⟩ ++ ⟨c.toArray⟩ : ByteArray) = ⟨(a ++ b ++ c).toArray⟩ := by rw [cat, cat]
theorem mtext_any (m s : Int) (hm : R m) (hs : R s) (w : World) (he : EnvT w) :
    Calls Tryz.prog 56 #[.agg #[.int .i64 m, .int .i64 s]] w fun e w' => e = .returned (.tuple #[.string ⟨(tx m s).toArray⟩, .int .i64 (chk m s)]) ∧ Below w.heap.size w w' := by
  cases h : may m s with
  | false =>
    have e1 : tx m s = [] := by unfold tx; rw [h]; rfl
    have e2 : chk m s = 140 := by unfold chk; rw [h]; rfl
    rw [e1, e2]
    exact mtext_bad m s hm hs h w
  | true =>
    have e1 : tx m s = txt m s.toNat := by unfold tx; rw [h]; rfl
    have e2 : chk m s = 0 := by unfold chk; rw [h]; rfl
    have H := Lib.hid (fun w => mcheck_any m s hm hs w)
    rw [e2] at H
    rw [e1, e2]
    obtain ⟨s0, s1⟩ := may_bd h
    obtain ⟨j, rfl⟩ := Int.eq_ofNat_of_zero_le s0
    rw [Int.toNat_natCast]
    have HW := Lib.hid (fun w he => write_tab m hm w he)
    obtain ⟨p1, p2⟩ := itoa_parts m
    have hL := dec_le m hm
    have hL1 := dec_pos m.natAbs
    have HC := Lib.hid (fun w => cut_dash ⟨(Lib.itoa m).toArray⟩ ⟨(Lib.decDigits m.natAbs).toArray⟩ _ p2.symm p1 w)
    have hpad : pad m j = List.replicate (j + 1 - (Lib.decDigits m.natAbs).length) 48 ++ Lib.decDigits m.natAbs := rfl
    have htxt : txt m j = (if m < 0 then [45] else []) ++ (if j = 0 then pad m j else (pad m j).take ((pad m j).length - j) ++ 46 :: (pad m j).drop ((pad m j).length - j)) := rfl
    have hpl := pad_len m j
    generalize Lib.decDigits m.natAbs = d at *
    generalize pad m j = pd at *
    have hds : (⟨d.toArray⟩ : ByteArray).size = d.length := size_mk d
    by_cases hv : j + 1 ≤ d.length
    · -- no noughts ahead
      have HZ := Lib.hid (fun w => repeat0_any 0 (by omega) w)
      have hz0 : (⟨(List.replicate 0 (48 : UInt8)).toArray⟩ : ByteArray).size = 0 := rfl
      have hpd : pd = d := by rw [hpad, show j + 1 - d.length = 0 by omega]; rfl
      have hc : (⟨(List.replicate 0 (48 : UInt8)).toArray⟩ ++ ⟨d.toArray⟩ : ByteArray) = ⟨d.toArray⟩ := by rw [cat]; rfl
      by_cases hj : j = 0
      · subst hj
        rw [if_pos rfl, hpd] at htxt
        by_cases hn : m < 0
        · rw [decide_eq_true hn] at HC
          rw [if_pos hn] at htxt
          exact mtext_0n m _ _ _ _ w H HW HC HZ he (by omega) hz0 (by omega) rfl _ (Lib.hid (by rw [hc, htxt]; exact cat [45] d))
        · rw [decide_eq_false hn] at HC
          rw [if_neg hn] at htxt
          exact mtext_0p m _ _ _ _ w H HW HC HZ he (by omega) hz0 (by omega) rfl _ (Lib.hid (by rw [hc, htxt]; rfl))
      · rw [if_neg hj, hpd] at htxt
        by_cases hn : m < 0
        · rw [decide_eq_true hn] at HC
          rw [if_pos hn] at htxt
          refine mtext_2n m _ _ _ _ w H HW HC HZ he (by omega) hz0 (by omega) (by omega) s1 (d.length - j) (by rw [hz0, hds]; omega) (by rw [hz0, hds]; omega) _ (Lib.hid ?_)
          rw [hc, hz0, hds, ext_mk, ext_mk, htxt, show (⟨#[46]⟩ : ByteArray) = ⟨[46].toArray⟩ from rfl, cat3, show (⟨#[45]⟩ : ByteArray) = ⟨[45].toArray⟩ from rfl, cat]
          congr 2
          rw [List.drop_zero, Nat.sub_zero, List.take_of_length_le (l := List.drop (d.length - j) d) (by rw [List.length_drop]; omega)]
          simp
        · rw [decide_eq_false hn] at HC
          rw [if_neg hn] at htxt
          refine mtext_2p m _ _ _ _ w H HW HC HZ he (by omega) hz0 (by omega) (by omega) s1 (d.length - j) (by rw [hz0, hds]; omega) (by rw [hz0, hds]; omega) _ (Lib.hid ?_)
          rw [hc, hz0, hds, ext_mk, ext_mk, htxt, show (⟨#[46]⟩ : ByteArray) = ⟨[46].toArray⟩ from rfl, cat3]
          congr 2
          rw [List.drop_zero, Nat.sub_zero, List.take_of_length_le (l := List.drop (d.length - j) d) (by rw [List.length_drop]; omega)]
          simp
    · have hj : ¬ j = 0 := by omega
      have HZ := Lib.hid (fun w => repeat0_any (j + 1 - d.length) (by omega) w)
      have hzs : (⟨(List.replicate (j + 1 - d.length) (48 : UInt8)).toArray⟩ : ByteArray).size = j + 1 - d.length := by rw [size_mk, List.length_replicate]
      have hc : (⟨(List.replicate (j + 1 - d.length) (48 : UInt8)).toArray⟩ ++ ⟨d.toArray⟩ : ByteArray) = ⟨pd.toArray⟩ := by rw [cat, hpad]
      have hpl' : pd.length = j + 1 := by rw [hpl, if_pos (by omega)]
      rw [if_neg hj, hpl', show j + 1 - j = 1 by omega] at htxt
      by_cases hn : m < 0
      · rw [decide_eq_true hn] at HC
        rw [if_pos hn] at htxt
        refine mtext_1n m _ _ _ _ (j + 1 - d.length) w H HW HC HZ he (by omega) (by omega) (by omega) (by omega) (by omega) s1 1 (by rw [hzs, hds]; omega) (by rw [hzs, hds]; omega) _ (Lib.hid ?_)
        rw [hc, hzs, hds, ext_mk, ext_mk, htxt, show (⟨#[46]⟩ : ByteArray) = ⟨[46].toArray⟩ from rfl, cat3, show (⟨#[45]⟩ : ByteArray) = ⟨[45].toArray⟩ from rfl, cat]
        congr 2
        rw [List.drop_zero, List.take_of_length_le (l := List.drop 1 pd) (by rw [List.length_drop]; omega)]
        simp
      · rw [decide_eq_false hn] at HC
        rw [if_neg hn] at htxt
        refine mtext_1p m _ _ _ _ (j + 1 - d.length) w H HW HC HZ he (by omega) (by omega) (by omega) (by omega) (by omega) s1 1 (by rw [hzs, hds]; omega) (by rw [hzs, hds]; omega) _ (Lib.hid ?_)
        rw [hc, hzs, hds, ext_mk, ext_mk, htxt, show (⟨#[46]⟩ : ByteArray) = ⟨[46].toArray⟩ from rfl, cat3]
        congr 2
        rw [List.drop_zero, List.take_of_length_le (l := List.drop 1 pd) (by rw [List.length_drop]; omega)]
        simp
end Go.Proofs.YtjhgiojmlkeccaaGreatDoor
namespace Go.Proofs.YtjhgiojmlkeccaaGreatDoor
open Go.RowKit
/-- In one way, on naturals. -/
def nrm : Nat → Nat → Nat × Nat
  | 0, u => (u, 0)
  | s + 1, u => if u % 10 = 0 then nrm s (u / 10) else (u, s + 1)
theorem norm_nrm : ∀ (s u : Nat), norm s (u : Int) = (((nrm s u).1 : Int), (nrm s u).2)
  | 0, u => rfl
  | s + 1, u => by
    rw [norm, nrm]
    by_cases h : u % 10 = 0
    · rw [if_pos (by omega), if_pos h, show (u : Int) / 10 = ((u / 10 : Nat) : Int) by omega, norm_nrm s (u / 10)]
    · rw [if_neg (by omega), if_neg h]
theorem nrm_end (k u : Nat) (h : k = 0 ∨ ¬ u % 10 = 0) : nrm k u = (u, k) := by
  cases k with
  | zero => rfl
  | succ k => rw [nrm, if_neg (by omega)]
theorem nrm_step (k u : Nat) (h : u % 10 = 0) : nrm (k + 1) u = nrm k (u / 10) := by rw [nrm, if_pos h]
def mdM (n : Int) : Int := if inR (norm 18 n).1 then (norm 18 n).1 else 0
def mdS (n : Int) : Int := if inR (norm 18 n).1 then (norm 18 n).2 else 0
def mdE (n : Int) : Int := if inR (norm 18 n).1 then 0 else 20
theorem md_plus (u c k : Nat) (h : nrm 18 u = (c, k)) : (c ≤ 9223372036854775807 → mdM u = c ∧ mdS u = k ∧ mdE u = 0) ∧ (9223372036854775807 < c → mdM u = 0 ∧ mdS u = 0 ∧ mdE u = 20) := by
  unfold mdM mdS mdE
  rw [norm_nrm, h]
  constructor
  · intro hc
    have : inR (c : Int) = true := (inR_iff _).2 ⟨by omega, by omega⟩
    simp only [this, if_true]; exact ⟨trivial, trivial, trivial⟩
  · intro hc
    have : inR (c : Int) = false := by rw [Bool.eq_false_iff]; intro e; have := ((inR_iff _).1 e).2; omega
    simp only [this, Bool.false_eq_true, if_false]; exact ⟨trivial, trivial, trivial⟩
theorem md_minus (u c k : Nat) (h : nrm 18 u = (c, k)) : (c ≤ 9223372036854775808 → mdM (-u) = -c ∧ mdS (-u) = k ∧ mdE (-u) = 0) ∧ (9223372036854775808 < c → mdM (-u) = 0 ∧ mdS (-u) = 0 ∧ mdE (-u) = 20) := by
  unfold mdM mdS mdE
  rw [norm_neg, norm_nrm, h]
  constructor
  · intro hc
    have : inR (-(c : Int)) = true := (inR_iff _).2 ⟨by omega, by omega⟩
    simp only [this, if_true]; exact ⟨trivial, trivial, trivial⟩
  · intro hc
    have : inR (-(c : Int)) = false := by rw [Bool.eq_false_iff]; intro e; have := ((inR_iff _).1 e).1; omega
    simp only [this, Bool.false_eq_true, if_false]; exact ⟨trivial, trivial, trivial⟩
theorem two_part (u : Nat) (hu : u < 170141183460469231731687303715884105728) : ∃ p q : Nat, two u = .agg #[.int .u64 p, .int .u64 q] ∧ u = p * 18446744073709551616 + q ∧ p < 9223372036854775808 ∧ q < 18446744073709551616 :=
  ⟨u / 18446744073709551616, u % 18446744073709551616, rfl, by omega, by omega, by omega⟩
theorem ret_md {a b c a' b' c' : Int} (h : a = a' ∧ b = b' ∧ c = c') : Ending.returned (.tuple #[.agg #[.int .i64 a, .int .i64 b], .int .i64 c]) = .returned (.tuple #[.agg #[.int .i64 a', .int .i64 b'], .int .i64 c']) := by
  rw [h.1, h.2.1, h.2.2]
theorem over_md {rM rS rE : Int} (h : rM = 0 ∧ rS = 0 ∧ rE = 20) : 0 = rM ∧ 0 = rS ∧ 20 = rE := by omega
theorem fine_md {rM rS rE x y z s : Int} (h : rM = x ∧ rS = s ∧ rE = 0) (h' : y = x) (h2 : z = s) : y = rM ∧ z = rS ∧ 0 = rE := by omega
theorem tenth_of (c h l : Nat) (hc : c = h * 18446744073709551616 + l) (hh : h < 18446744073709551616) (hl : l < 18446744073709551616) (w : World) :
    Calls Tryz.prog 141 #[.agg #[.int .u64 h, .int .u64 l]] w fun e w' => e = .returned (.tuple #[two (c / 10), .int .u64 ((c % 10 : Nat) : Int)]) ∧ Below w.heap.size w w' := by
  subst hc; exact tenth_any h l hh hl w
set_option maxRecDepth 100000 in
set_option maxHeartbeats 2000000 in
theorem made_plus (u : Nat) (hu : u < 170141183460469231731687303715884105728) (w : World) :
    Calls Tryz.prog 95 #[wideV 146 u] w fun e w' => e = .returned (.tuple #[.agg #[.int .i64 (mdM (u : Int)), .int .i64 (mdS (u : Int))], .int .i64 (mdE (u : Int))]) ∧ Below w.heap.size w w' := by
  have hmd := md_plus u
  generalize mdM (u : Int) = rM at *
  generalize mdS (u : Int) = rS at *
  generalize mdE (u : Int) = rE at *
  obtain ⟨a, b, hab, ha, hb⟩ := split2 u hu
  rw [show wideV 146 u = .iface 146 (.agg #[.int .u64 a, .int .u64 b]) by rw [hab, wideV_mk _ a b hb]]
  obtain ⟨N0, hN0⟩ : ∃ x, nrm 18 u = x := ⟨_, rfl⟩
  have HAB : Hid (u = a * 18446744073709551616 + b ∧ N0 = nrm 18 u) := Lib.hid ⟨hab, hN0.symm⟩
  rw [hN0] at hmd
  have HMD := Lib.hid hmd
  clear hu hab hmd hN0
  have t1 := plus_plus
  have t2 := plus_minus
  go_enter Tryz.func95, Tryz.ntmps95
  go_wp2_with fail
  go_loopw [8] (fun s wr => ∃ k c hi lo : Nat, k ≤ 18 ∧ s = .int .i64 k ∧ hi < 9223372036854775808 ∧ lo < 18446744073709551616 ∧ Hid (c = hi * 18446744073709551616 + lo ∧ N0 = nrm k c) ∧ wr.cell? ⟨w.heap.size + 1, 0, none⟩ = some (.int .u64 hi) ∧ wr.cell? ⟨w.heap.size + 1, 1, none⟩ = some (.int .u64 lo) ∧ wr.frozen? ⟨w.heap.size + 1, 0, none⟩ = false ∧ wr.frozen? ⟨w.heap.size + 1, 1, none⟩ = false ∧ wr.cell? ⟨w.heap.size, 0, none⟩ = some (.int .i64 0) ∧ wr.cell? ⟨w.heap.size, 1, none⟩ = some (.int .i64 0) ∧ wr.frozen? ⟨w.heap.size, 0, none⟩ = false ∧ wr.frozen? ⟨w.heap.size, 1, none⟩ = false ∧ w.heap.size + 2 < wr.heap.size ∧ Below w.heap.size w wr) (fun s _ => (intOf s).toNat)
  case atStart =>
    refine ⟨18, u, a, b, by omega, rfl, ha, hb, HAB, by simp [go_sem], by simp [go_sem], by simp [go_sem], by simp [go_sem], by simp [go_sem], by simp [go_sem], by simp [go_sem], by simp [go_sem], by simp, ?_⟩
    go_grown
  case round =>
    obtain ⟨k, c, hi, lo, hk, rfl, hhi, hlo, HN, c0, c1, f0, f1, d0, d1, g0, g1, hz, hbw⟩ := hrel
    have z0 : w.heap.size < wr.heap.size := by omega
    have z1 : w.heap.size + 1 < wr.heap.size := by omega
    by_cases hk0 : k = 0
    · subst hk0
      have HE := Lib.hid (HMD.out c 0 (HN.out.2.trans (nrm_end 0 c (.inl rfl))))
      by_cases hov : 0 < hi
      · go_wp2_with fail
        refine bodyPost_ret (v := .tuple #[.agg #[.int .i64 0, .int .i64 0], .int .i64 20]) (by simp [results, Tryz.results95, go_sem, *]) rfl ⟨ret_md ?_, ?_⟩
        · exact over_md (HE.out.2 (by have := HN.out.1; omega))
        · go_grown
      · by_cases hov2 : 9223372036854775807 < lo
        · go_wp2_with fail
          refine bodyPost_ret (v := .tuple #[.agg #[.int .i64 0, .int .i64 0], .int .i64 20]) (by simp [results, Tryz.results95, go_sem, *]) rfl ⟨ret_md ?_, ?_⟩
          · exact over_md (HE.out.2 (by have := HN.out.1; omega))
          · go_grown
        · obtain rfl : hi = 0 := by omega
          have hlb : (lo : Int) ≤ 9223372036854775807 := by omega
          go_wp2_with fail
          refine bodyPost_ret (v := .tuple #[.agg #[.int .i64 (lo : Int), .int .i64 ((0 : Nat) : Int)], .int .i64 0]) (by simp [results, Tryz.results95, go_sem, *]) rfl ⟨ret_md ?_, ?_⟩
          · exact fine_md (HE.out.1 (by have := HN.out.1; omega)) (by have := HN.out.1; omega) (by omega)
          · go_grown
    · obtain ⟨j, rfl⟩ : ∃ j, k = j + 1 := ⟨k - 1, by omega⟩
      have HT := Lib.hid (fun w => tenth_of c hi lo HN.out.1 (by omega) hlo w)
      obtain ⟨p, q, h2, h3, hp, hq⟩ := two_part (c / 10) (by have := HN.out.1; omega)
      rw [h2] at HT
      have HP := Lib.hid h3
      clear h2 h3
      by_cases hl : c % 10 = 0
      · have HS := Lib.hid (HN.out.2.trans (nrm_step j c hl))
        rw [hl] at HT
        clear hl hk0
        go_wp2_with fail
        refine (HT.out _).mono ?_; rintro e w1 ⟨rfl, hb1⟩
        obtain ⟨cc, ff⟩ := bcell hb1
        have z0' : w.heap.size < w1.heap.size := by have := hb1.size; omega
        have z1' : w.heap.size + 1 < w1.heap.size := by have := hb1.size; omega
        have hz1 : w.heap.size + 2 < w1.heap.size := by have := hb1.size; omega
        have hbw1 : Below w.heap.size w w1 := hbw.trans (hb1.mono (by omega))
        have c0' := (cc _ 0 z1).trans c0
        have c1' := (cc _ 1 z1).trans c1
        have f0' := (ff _ 0 z1).trans f0
        have f1' := (ff _ 1 z1).trans f1
        have d0' := (cc _ 0 z0).trans d0
        have d1' := (cc _ 1 z0).trans d1
        have g0' := (ff _ 0 z0).trans g0
        have g1' := (ff _ 1 z0).trans g1
        clear cc ff c0 c1 f0 f1 d0 d1 g0 g1 hbw hz z0 z1 hb1
        go_wp2_with fail
        go_roundw
        case rel =>
          refine ⟨j, c / 10, p, q, by omega, by go_num, hp, hq, Lib.hid ⟨HP.out, HS.out⟩, by simp [go_sem, *], by simp [go_sem, *], by simp [go_sem, *], by simp [go_sem, *], by simp [go_sem, *], by simp [go_sem, *], by simp [go_sem, *], by simp [go_sem, *], by simp; omega, ?_⟩
          go_grown
        case measure => simp [intOf]
      · have HE := Lib.hid (HMD.out c (j + 1) (HN.out.2.trans (nrm_end (j + 1) c (.inr hl))))
        obtain ⟨r, hr⟩ : ∃ r : Nat, c % 10 = r := ⟨_, rfl⟩
        have hr0 : 0 < r := by omega
        rw [hr] at HT
        clear hl hr hk0
        by_cases hov : 0 < hi
        · go_wp2_with fail
          refine (HT.out _).mono ?_; rintro e w1 ⟨rfl, hb1⟩
          obtain ⟨cc, ff⟩ := bcell hb1
          have z0' : w.heap.size < w1.heap.size := by have := hb1.size; omega
          have z1' : w.heap.size + 1 < w1.heap.size := by have := hb1.size; omega
          have hz1 : w.heap.size + 2 < w1.heap.size := by have := hb1.size; omega
          have hbw1 : Below w.heap.size w w1 := hbw.trans (hb1.mono (by omega))
          have c0' := (cc _ 0 z1).trans c0
          have c1' := (cc _ 1 z1).trans c1
          have f0' := (ff _ 0 z1).trans f0
          have f1' := (ff _ 1 z1).trans f1
          have d0' := (cc _ 0 z0).trans d0
          have d1' := (cc _ 1 z0).trans d1
          have g0' := (ff _ 0 z0).trans g0
          have g1' := (ff _ 1 z0).trans g1
          clear cc ff c0 c1 f0 f1 d0 d1 g0 g1 hbw hz z0 z1 hb1
          go_wp2_with fail
          refine bodyPost_ret (v := .tuple #[.agg #[.int .i64 0, .int .i64 0], .int .i64 20]) (by simp [results, Tryz.results95, go_sem, *]) rfl ⟨ret_md ?_, ?_⟩
          · exact over_md (HE.out.2 (by have := HN.out.1; omega))
          · go_grown
        · by_cases hov2 : 9223372036854775807 < lo
          · go_wp2_with fail
            refine (HT.out _).mono ?_; rintro e w1 ⟨rfl, hb1⟩
            obtain ⟨cc, ff⟩ := bcell hb1
            have z0' : w.heap.size < w1.heap.size := by have := hb1.size; omega
            have z1' : w.heap.size + 1 < w1.heap.size := by have := hb1.size; omega
            have hz1 : w.heap.size + 2 < w1.heap.size := by have := hb1.size; omega
            have hbw1 : Below w.heap.size w w1 := hbw.trans (hb1.mono (by omega))
            have c0' := (cc _ 0 z1).trans c0
            have c1' := (cc _ 1 z1).trans c1
            have f0' := (ff _ 0 z1).trans f0
            have f1' := (ff _ 1 z1).trans f1
            have d0' := (cc _ 0 z0).trans d0
            have d1' := (cc _ 1 z0).trans d1
            have g0' := (ff _ 0 z0).trans g0
            have g1' := (ff _ 1 z0).trans g1
            clear cc ff c0 c1 f0 f1 d0 d1 g0 g1 hbw hz z0 z1 hb1
            go_wp2_with fail
            refine bodyPost_ret (v := .tuple #[.agg #[.int .i64 0, .int .i64 0], .int .i64 20]) (by simp [results, Tryz.results95, go_sem, *]) rfl ⟨ret_md ?_, ?_⟩
            · exact over_md (HE.out.2 (by have := HN.out.1; omega))
            · go_grown
          · obtain rfl : hi = 0 := by omega
            have hlb : (lo : Int) ≤ 9223372036854775807 := by omega
            go_wp2_with fail
            refine (HT.out _).mono ?_; rintro e w1 ⟨rfl, hb1⟩
            obtain ⟨cc, ff⟩ := bcell hb1
            have z0' : w.heap.size < w1.heap.size := by have := hb1.size; omega
            have z1' : w.heap.size + 1 < w1.heap.size := by have := hb1.size; omega
            have hz1 : w.heap.size + 2 < w1.heap.size := by have := hb1.size; omega
            have hbw1 : Below w.heap.size w w1 := hbw.trans (hb1.mono (by omega))
            have c0' := (cc _ 0 z1).trans c0
            have c1' := (cc _ 1 z1).trans c1
            have f0' := (ff _ 0 z1).trans f0
            have f1' := (ff _ 1 z1).trans f1
            have d0' := (cc _ 0 z0).trans d0
            have d1' := (cc _ 1 z0).trans d1
            have g0' := (ff _ 0 z0).trans g0
            have g1' := (ff _ 1 z0).trans g1
            clear cc ff c0 c1 f0 f1 d0 d1 g0 g1 hbw hz z0 z1 hb1
            go_wp2_with fail
            refine bodyPost_ret (v := .tuple #[.agg #[.int .i64 (lo : Int), .int .i64 ((j : Int) + 1)], .int .i64 0]) (by simp [results, Tryz.results95, go_sem, *]) rfl ⟨ret_md ?_, ?_⟩
            · exact fine_md (HE.out.1 (by have := HN.out.1; omega)) (by have := HN.out.1; omega) (by omega)
            · go_grown
set_option maxRecDepth 100000 in
set_option maxHeartbeats 2000000 in
theorem made_minus (u : Nat) (hu : u < 170141183460469231731687303715884105728) (w : World) :
    Calls Tryz.prog 95 #[wideV 150 u] w fun e w' => e = .returned (.tuple #[.agg #[.int .i64 (mdM (-(u : Int))), .int .i64 (mdS (-(u : Int)))], .int .i64 (mdE (-(u : Int)))]) ∧ Below w.heap.size w w' := by
  have hmd := md_minus u
  generalize mdM (-(u : Int)) = rM at *
  generalize mdS (-(u : Int)) = rS at *
  generalize mdE (-(u : Int)) = rE at *
  obtain ⟨a, b, hab, ha, hb⟩ := split2 u hu
  rw [show wideV 150 u = .iface 150 (.agg #[.int .u64 a, .int .u64 b]) by rw [hab, wideV_mk _ a b hb]]
  obtain ⟨N0, hN0⟩ : ∃ x, nrm 18 u = x := ⟨_, rfl⟩
  have HAB : Hid (u = a * 18446744073709551616 + b ∧ N0 = nrm 18 u) := Lib.hid ⟨hab, hN0.symm⟩
  rw [hN0] at hmd
  have HMD := Lib.hid hmd
  clear hu hab hmd hN0
  have t1 := minus_plus
  have t2 := minus_minus
  go_enter Tryz.func95, Tryz.ntmps95
  go_wp2_with fail
  go_loopw [8] (fun s wr => ∃ k c hi lo : Nat, k ≤ 18 ∧ s = .int .i64 k ∧ hi < 9223372036854775808 ∧ lo < 18446744073709551616 ∧ Hid (c = hi * 18446744073709551616 + lo ∧ N0 = nrm k c) ∧ wr.cell? ⟨w.heap.size + 1, 0, none⟩ = some (.int .u64 hi) ∧ wr.cell? ⟨w.heap.size + 1, 1, none⟩ = some (.int .u64 lo) ∧ wr.frozen? ⟨w.heap.size + 1, 0, none⟩ = false ∧ wr.frozen? ⟨w.heap.size + 1, 1, none⟩ = false ∧ wr.cell? ⟨w.heap.size, 0, none⟩ = some (.int .i64 0) ∧ wr.cell? ⟨w.heap.size, 1, none⟩ = some (.int .i64 0) ∧ wr.frozen? ⟨w.heap.size, 0, none⟩ = false ∧ wr.frozen? ⟨w.heap.size, 1, none⟩ = false ∧ w.heap.size + 2 < wr.heap.size ∧ Below w.heap.size w wr) (fun s _ => (intOf s).toNat)
  case atStart =>
    refine ⟨18, u, a, b, by omega, rfl, ha, hb, HAB, by simp [go_sem], by simp [go_sem], by simp [go_sem], by simp [go_sem], by simp [go_sem], by simp [go_sem], by simp [go_sem], by simp [go_sem], by simp, ?_⟩
    go_grown
  case round =>
    obtain ⟨k, c, hi, lo, hk, rfl, hhi, hlo, HN, c0, c1, f0, f1, d0, d1, g0, g1, hz, hbw⟩ := hrel
    have z0 : w.heap.size < wr.heap.size := by omega
    have z1 : w.heap.size + 1 < wr.heap.size := by omega
    by_cases hk0 : k = 0
    · subst hk0
      have HE := Lib.hid (HMD.out c 0 (HN.out.2.trans (nrm_end 0 c (.inl rfl))))
      by_cases hov : 0 < hi
      · go_wp2_with fail
        refine bodyPost_ret (v := .tuple #[.agg #[.int .i64 0, .int .i64 0], .int .i64 20]) (by simp [results, Tryz.results95, go_sem, *]) rfl ⟨ret_md ?_, ?_⟩
        · exact over_md (HE.out.2 (by have := HN.out.1; omega))
        · go_grown
      · by_cases hov2 : 9223372036854775808 < lo
        · go_wp2_with fail
          refine bodyPost_ret (v := .tuple #[.agg #[.int .i64 0, .int .i64 0], .int .i64 20]) (by simp [results, Tryz.results95, go_sem, *]) rfl ⟨ret_md ?_, ?_⟩
          · exact over_md (HE.out.2 (by have := HN.out.1; omega))
          · go_grown
        · obtain rfl : hi = 0 := by omega
          have hlb : (lo : Int) ≤ 9223372036854775808 := by omega
          have hwr : wrap64 (IntKind.u64.wrap (-(lo : Int))) = -(lo : Int) := by simp only [IntKind.wrap_u64, wrap64]; omega
          go_wp2_with fail
          refine bodyPost_ret (v := .tuple #[.agg #[.int .i64 (-(lo : Int)), .int .i64 ((0 : Nat) : Int)], .int .i64 0]) (by simp [results, Tryz.results95, go_sem, *]) rfl ⟨ret_md ?_, ?_⟩
          · exact fine_md (HE.out.1 (by have := HN.out.1; omega)) (by have := HN.out.1; omega) (by omega)
          · go_grown
    · obtain ⟨j, rfl⟩ : ∃ j, k = j + 1 := ⟨k - 1, by omega⟩
      have HT := Lib.hid (fun w => tenth_of c hi lo HN.out.1 (by omega) hlo w)
      obtain ⟨p, q, h2, h3, hp, hq⟩ := two_part (c / 10) (by have := HN.out.1; omega)
      rw [h2] at HT
      have HP := Lib.hid h3
      clear h2 h3
      by_cases hl : c % 10 = 0
      · have HS := Lib.hid (HN.out.2.trans (nrm_step j c hl))
        rw [hl] at HT
        clear hl hk0
        go_wp2_with fail
        refine (HT.out _).mono ?_; rintro e w1 ⟨rfl, hb1⟩
        obtain ⟨cc, ff⟩ := bcell hb1
        have z0' : w.heap.size < w1.heap.size := by have := hb1.size; omega
        have z1' : w.heap.size + 1 < w1.heap.size := by have := hb1.size; omega
        have hz1 : w.heap.size + 2 < w1.heap.size := by have := hb1.size; omega
        have hbw1 : Below w.heap.size w w1 := hbw.trans (hb1.mono (by omega))
        have c0' := (cc _ 0 z1).trans c0
        have c1' := (cc _ 1 z1).trans c1
        have f0' := (ff _ 0 z1).trans f0
        have f1' := (ff _ 1 z1).trans f1
        have d0' := (cc _ 0 z0).trans d0
        have d1' := (cc _ 1 z0).trans d1
        have g0' := (ff _ 0 z0).trans g0
        have g1' := (ff _ 1 z0).trans g1
        clear cc ff c0 c1 f0 f1 d0 d1 g0 g1 hbw hz z0 z1 hb1
        go_wp2_with fail
        go_roundw
        case rel =>
          refine ⟨j, c / 10, p, q, by omega, by go_num, hp, hq, Lib.hid ⟨HP.out, HS.out⟩, by simp [go_sem, *], by simp [go_sem, *], by simp [go_sem, *], by simp [go_sem, *], by simp [go_sem, *], by simp [go_sem, *], by simp [go_sem, *], by simp [go_sem, *], by simp; omega, ?_⟩
          go_grown
        case measure => simp [intOf]
      · have HE := Lib.hid (HMD.out c (j + 1) (HN.out.2.trans (nrm_end (j + 1) c (.inr hl))))
        obtain ⟨r, hr⟩ : ∃ r : Nat, c % 10 = r := ⟨_, rfl⟩
        have hr0 : 0 < r := by omega
        rw [hr] at HT
        clear hl hr hk0
        by_cases hov : 0 < hi
        · go_wp2_with fail
          refine (HT.out _).mono ?_; rintro e w1 ⟨rfl, hb1⟩
          obtain ⟨cc, ff⟩ := bcell hb1
          have z0' : w.heap.size < w1.heap.size := by have := hb1.size; omega
          have z1' : w.heap.size + 1 < w1.heap.size := by have := hb1.size; omega
          have hz1 : w.heap.size + 2 < w1.heap.size := by have := hb1.size; omega
          have hbw1 : Below w.heap.size w w1 := hbw.trans (hb1.mono (by omega))
          have c0' := (cc _ 0 z1).trans c0
          have c1' := (cc _ 1 z1).trans c1
          have f0' := (ff _ 0 z1).trans f0
          have f1' := (ff _ 1 z1).trans f1
          have d0' := (cc _ 0 z0).trans d0
          have d1' := (cc _ 1 z0).trans d1
          have g0' := (ff _ 0 z0).trans g0
          have g1' := (ff _ 1 z0).trans g1
          clear cc ff c0 c1 f0 f1 d0 d1 g0 g1 hbw hz z0 z1 hb1
          go_wp2_with fail
          refine bodyPost_ret (v := .tuple #[.agg #[.int .i64 0, .int .i64 0], .int .i64 20]) (by simp [results, Tryz.results95, go_sem, *]) rfl ⟨ret_md ?_, ?_⟩
          · exact over_md (HE.out.2 (by have := HN.out.1; omega))
          · go_grown
        · by_cases hov2 : 9223372036854775808 < lo
          · go_wp2_with fail
            refine (HT.out _).mono ?_; rintro e w1 ⟨rfl, hb1⟩
            obtain ⟨cc, ff⟩ := bcell hb1
            have z0' : w.heap.size < w1.heap.size := by have := hb1.size; omega
            have z1' : w.heap.size + 1 < w1.heap.size := by have := hb1.size; omega
            have hz1 : w.heap.size + 2 < w1.heap.size := by have := hb1.size; omega
            have hbw1 : Below w.heap.size w w1 := hbw.trans (hb1.mono (by omega))
            have c0' := (cc _ 0 z1).trans c0
            have c1' := (cc _ 1 z1).trans c1
            have f0' := (ff _ 0 z1).trans f0
            have f1' := (ff _ 1 z1).trans f1
            have d0' := (cc _ 0 z0).trans d0
            have d1' := (cc _ 1 z0).trans d1
            have g0' := (ff _ 0 z0).trans g0
            have g1' := (ff _ 1 z0).trans g1
            clear cc ff c0 c1 f0 f1 d0 d1 g0 g1 hbw hz z0 z1 hb1
            go_wp2_with fail
            refine bodyPost_ret (v := .tuple #[.agg #[.int .i64 0, .int .i64 0], .int .i64 20]) (by simp [results, Tryz.results95, go_sem, *]) rfl ⟨ret_md ?_, ?_⟩
            · exact over_md (HE.out.2 (by have := HN.out.1; omega))
            · go_grown
          · obtain rfl : hi = 0 := by omega
            have hlb : (lo : Int) ≤ 9223372036854775808 := by omega
            have hwr : wrap64 (IntKind.u64.wrap (-(lo : Int))) = -(lo : Int) := by simp only [IntKind.wrap_u64, wrap64]; omega
            go_wp2_with fail
            refine (HT.out _).mono ?_; rintro e w1 ⟨rfl, hb1⟩
            obtain ⟨cc, ff⟩ := bcell hb1
            have z0' : w.heap.size < w1.heap.size := by have := hb1.size; omega
            have z1' : w.heap.size + 1 < w1.heap.size := by have := hb1.size; omega
            have hz1 : w.heap.size + 2 < w1.heap.size := by have := hb1.size; omega
            have hbw1 : Below w.heap.size w w1 := hbw.trans (hb1.mono (by omega))
            have c0' := (cc _ 0 z1).trans c0
            have c1' := (cc _ 1 z1).trans c1
            have f0' := (ff _ 0 z1).trans f0
            have f1' := (ff _ 1 z1).trans f1
            have d0' := (cc _ 0 z0).trans d0
            have d1' := (cc _ 1 z0).trans d1
            have g0' := (ff _ 0 z0).trans g0
            have g1' := (ff _ 1 z0).trans g1
            clear cc ff c0 c1 f0 f1 d0 d1 g0 g1 hbw hz z0 z1 hb1
            go_wp2_with fail
            refine bodyPost_ret (v := .tuple #[.agg #[.int .i64 (-(lo : Int)), .int .i64 ((j : Int) + 1)], .int .i64 0]) (by simp [results, Tryz.results95, go_sem, *]) rfl ⟨ret_md ?_, ?_⟩
            · exact fine_md (HE.out.1 (by have := HN.out.1; omega)) (by have := HN.out.1; omega) (by omega)
            · go_grown
end Go.Proofs.YtjhgiojmlkeccaaGreatDoor
namespace Go.Proofs.YtjhgiojmlkeccaaGreatDoor
open Go.RowKit
/-- A whole number's value of two words. -/
def wv (n : Int) : Value := if n < 0 then wideV 150 n.natAbs else wideV 146 n.natAbs
theorem wv_pos {n : Int} (h : 0 ≤ n) : wv n = wideV 146 n.natAbs := if_neg (by omega)
theorem wv_neg {n : Int} (h : n < 0) : wv n = wideV 150 n.natAbs := if_pos h
theorem scl_abs (m s : Int) : (scl m s).natAbs = mag m s := by
  unfold scl mag; rw [Int.natAbs_mul, Int.natAbs_pow]; rfl
theorem scl_neg (m s : Int) : scl m s < 0 ↔ m < 0 := by
  unfold scl
  have hp : (0 : Int) < 10 ^ (18 - s.toNat) := Int.pow_pos (by decide)
  constructor
  · intro h
    by_cases q : m < 0
    · exact q
    · exact absurd (Int.mul_nonneg (by omega : 0 ≤ m) (Int.le_of_lt hp)) (by omega)
  · intro h; exact Int.mul_neg_of_neg_of_pos h hp
theorem mag_bd (m s : Int) (hm : R m) : mag m s < 85070591730234615865843651857942052864 := by
  unfold mag
  have h1 : m.natAbs ≤ 9223372036854775808 := by unfold R at hm; omega
  have h2 := pow_bd (18 - s.toNat) (by omega)
  have h3 := Nat.mul_le_mul h1 h2
  omega
theorem wof_any (m s : Int) (hm : R m) (hs : 0 ≤ s) (hs2 : s ≤ 18) (w : World) :
    Calls Tryz.prog 93 #[.agg #[.int .i64 m, .int .i64 s]] w fun e w' => e = .returned (wv (scl m s)) ∧ Below w.heap.size w w' := by
  by_cases h : m < 0
  · rw [wv_neg ((scl_neg m s).2 h), scl_abs]
    exact wof_neg m s hm hs hs2 h w
  · rw [wv_pos (by have := (scl_neg m s); omega), scl_abs]
    exact wof_pos m s hm hs hs2 (by omega) w
theorem sum_any (x y : Int) (hx : x.natAbs < 85070591730234615865843651857942052864) (hy : y.natAbs < 85070591730234615865843651857942052864) (w : World) :
    Calls Tryz.prog 96 #[wv x, wv y] w fun e w' => e = .returned (wv (x + y)) ∧ Below w.heap.size w w' := by
  by_cases hx0 : x < 0
  · by_cases hy0 : y < 0
    · rw [wv_neg hx0, wv_neg hy0, wv_neg (by omega), show (x + y).natAbs = x.natAbs + y.natAbs by omega]
      exact sum_mm _ _ (by omega) (by omega) w
    · rw [wv_neg hx0, wv_pos (by omega : 0 ≤ y)]
      refine sum_mp _ _ w _ (Lib.hid fun w => ?_)
      by_cases hlt : y.natAbs < x.natAbs
      · rw [wv_neg (by omega), show (x + y).natAbs = x.natAbs - y.natAbs by omega]
        exact sum_pm_lt _ _ (by omega) (by omega) hlt w
      · rw [wv_pos (by omega), show (x + y).natAbs = y.natAbs - x.natAbs by omega]
        exact sum_pm_ge _ _ (by omega) (by omega) (by omega) w
  · by_cases hy0 : y < 0
    · rw [wv_pos (by omega : 0 ≤ x), wv_neg hy0]
      by_cases hlt : x.natAbs < y.natAbs
      · rw [wv_neg (by omega), show (x + y).natAbs = y.natAbs - x.natAbs by omega]
        exact sum_pm_lt _ _ (by omega) (by omega) hlt w
      · rw [wv_pos (by omega), show (x + y).natAbs = x.natAbs - y.natAbs by omega]
        exact sum_pm_ge _ _ (by omega) (by omega) (by omega) w
    · rw [wv_pos (by omega : 0 ≤ x), wv_pos (by omega : 0 ≤ y), wv_pos (by omega), show (x + y).natAbs = x.natAbs + y.natAbs by omega]
      exact sum_pp _ _ (by omega) (by omega) w
theorem made_any (x : Int) (hx : x.natAbs < 170141183460469231731687303715884105728) (w : World) :
    Calls Tryz.prog 95 #[wv x] w fun e w' => e = .returned (.tuple #[.agg #[.int .i64 (mdM x), .int .i64 (mdS x)], .int .i64 (mdE x)]) ∧ Below w.heap.size w w' := by
  by_cases h : x < 0
  · rw [wv_neg h]
    have := made_minus x.natAbs hx w
    rw [show -(x.natAbs : Int) = x by omega] at this
    exact this
  · rw [wv_pos (by omega)]
    have := made_plus x.natAbs hx w
    rw [show (x.natAbs : Int) = x by omega] at this
    exact this
theorem mag_abs (m s : Int) (hm : R m) : (scl m s).natAbs < 85070591730234615865843651857942052864 := by rw [scl_abs]; exact mag_bd m s hm
theorem add_fine {m s n t : Int} (h : may m s = true) (k : may n t = true) : addM m s n t = mdM (scl m s + scl n t) ∧ addS m s n t = mdS (scl m s + scl n t) ∧ addE m s n t = mdE (scl m s + scl n t) := by
  unfold addM addS addE mdM mdS mdE addOk sumN
  rw [h, k]
  simp only [Bool.and_self, if_true, Bool.true_and]
  exact ⟨trivial, trivial, trivial⟩
theorem add_bad {m s n t : Int} (h : cmpE m s n t = 140) : addM m s n t = 0 ∧ addS m s n t = 0 ∧ addE m s n t = 140 := by
  have hb : (may m s && may n t) = false := by
    cases hc : (may m s && may n t) with
    | false => rfl
    | true => unfold cmpE at h; rw [hc] at h; exact absurd h (by decide)
  unfold addM addS addE addOk
  rw [hb]; exact ⟨rfl, rfl, rfl⟩
theorem cmp_two (m s n t : Int) : (cmpE m s n t = 0 ∧ may m s = true ∧ may n t = true) ∨ cmpE m s n t = 140 := by
  unfold cmpE
  cases may m s <;> cases may n t <;> simp
/-- Three blocks of the call's own, behind a call that only makes blocks. -/
theorem keep6 {w W w1 : World} {b : Nat} {x y x' y' z z' : Value} (hb : Below W.heap.size W w1) (h : W.cell? ⟨b, 0, none⟩ = some x ∧ W.cell? ⟨b, 1, none⟩ = some y ∧ W.cell? ⟨b + 1, 0, none⟩ = some x' ∧ W.cell? ⟨b + 1, 1, none⟩ = some y' ∧ W.cell? ⟨b + 1 + 1, 0, none⟩ = some z ∧ W.cell? ⟨b + 1 + 1, 1, none⟩ = some z' ∧ W.frozen? ⟨b + 1 + 1, 0, none⟩ = false ∧ W.frozen? ⟨b + 1 + 1, 1, none⟩ = false ∧ b + 1 + 1 < W.heap.size ∧ Below w.heap.size w W) :
    w1.cell? ⟨b, 0, none⟩ = some x ∧ w1.cell? ⟨b, 1, none⟩ = some y ∧ w1.cell? ⟨b + 1, 0, none⟩ = some x' ∧ w1.cell? ⟨b + 1, 1, none⟩ = some y' ∧ w1.cell? ⟨b + 1 + 1, 0, none⟩ = some z ∧ w1.cell? ⟨b + 1 + 1, 1, none⟩ = some z' ∧ w1.frozen? ⟨b + 1 + 1, 0, none⟩ = false ∧ w1.frozen? ⟨b + 1 + 1, 1, none⟩ = false ∧ b + 1 + 1 < w1.heap.size ∧ Below w.heap.size w w1 := by
  obtain ⟨h0, h1, h2, h3, h4, h5, h6, h7, h8, h9⟩ := h
  obtain ⟨cc, ff⟩ := bcell hb
  exact ⟨(cc _ _ (by omega)).trans h0, (cc _ _ (by omega)).trans h1, (cc _ _ (by omega)).trans h2, (cc _ _ (by omega)).trans h3, (cc _ _ (by omega)).trans h4, (cc _ _ (by omega)).trans h5, (ff _ _ (by omega)).trans h6, (ff _ _ (by omega)).trans h7, Nat.lt_of_lt_of_le h8 hb.size, h9.trans (hb.mono h9.size)⟩
set_option maxRecDepth 100000 in
set_option maxHeartbeats 1000000 in
theorem madd_bad (m s n t : Int) (hm : R m) (hs : R s) (hn : R n) (ht : R t) (h : cmpE m s n t = 140) (w : World) :
    Calls Tryz.prog 58 #[.agg #[.int .i64 m, .int .i64 s], .agg #[.int .i64 n, .int .i64 t]] w fun e w' => e = .returned (.tuple #[.agg #[.int .i64 (addM m s n t), .int .i64 (addS m s n t)], .int .i64 (addE m s n t)]) ∧ Below w.heap.size w w' := by
  obtain ⟨e1, e2, e3⟩ := add_bad h
  rw [e1, e2, e3]
  have H := Lib.hid (fun w => mboth_any m s n t hm hs hn ht w)
  rw [h] at H
  clear e1 e2 e3 h hm hs hn ht
  go_enter Tryz.func58, Tryz.ntmps58
  go_wp2_with fail
  refine (H.out _).mono ?_; rintro e w1 ⟨rfl, hb1⟩
  obtain ⟨cc, ff⟩ := bcell hb1
  have hz : w.heap.size + 1 + 1 < w1.heap.size := by have := hb1.size; simp at this; omega
  go_wp2_with fail
  refine bodyPost_ret (v := .tuple #[.agg #[.int .i64 0, .int .i64 0], .int .i64 140]) (by simp [results, Tryz.results58, go_sem, *]) rfl ⟨rfl, ?_⟩
  go_grown
  refine Below.trans ?_ (hb1.mono (by simp; omega))
  go_grown
set_option maxRecDepth 100000 in
set_option maxHeartbeats 2000000 in
theorem madd_fine (m s n t : Int) (hm : R m) (hs : R s) (hn : R n) (ht : R t) (h : cmpE m s n t = 0) (h1 : may m s = true) (h2 : may n t = true) (w : World) :
    Calls Tryz.prog 58 #[.agg #[.int .i64 m, .int .i64 s], .agg #[.int .i64 n, .int .i64 t]] w fun e w' => e = .returned (.tuple #[.agg #[.int .i64 (addM m s n t), .int .i64 (addS m s n t)], .int .i64 (addE m s n t)]) ∧ Below w.heap.size w w' := by
  obtain ⟨e1, e2, e3⟩ := add_fine h1 h2
  rw [e1, e2, e3]
  have H := Lib.hid (fun w => mboth_any m s n t hm hs hn ht w)
  rw [h] at H
  have b1 := may_bd h1
  have b2 := may_bd h2
  have HA := Lib.hid (fun w => wof_any m s hm b1.1 b1.2 w)
  have HB := Lib.hid (fun w => wof_any n t hn b2.1 b2.2 w)
  have g1 := mag_abs m s hm
  have g2 := mag_abs n t hn
  have HS := Lib.hid (fun w => sum_any (scl m s) (scl n t) g1 g2 w)
  have HM := Lib.hid (fun w => made_any (scl m s + scl n t) (by omega) w)
  generalize mdM (scl m s + scl n t) = rM at *
  generalize mdS (scl m s + scl n t) = rS at *
  generalize mdE (scl m s + scl n t) = rE at *
  generalize wv (scl m s + scl n t) = v3 at *
  generalize wv (scl m s) = v1 at *
  generalize wv (scl n t) = v2 at *
  clear e1 e2 e3 h hm hs hn ht h1 h2 g1 g2 b1 b2
  go_enter Tryz.func58, Tryz.ntmps58
  go_wp2_with fail
  refine (H.out _).mono ?_; rintro e w1 ⟨rfl, hb1⟩
  obtain ⟨cc, ff⟩ := bcell hb1
  have hz : w.heap.size + 1 + 1 < w1.heap.size := by have := hb1.size; simp at this; omega
  have hbw : Below w.heap.size w w1 := by
    refine Below.trans ?_ (hb1.mono (by simp; omega))
    go_grown
  go_wp2_with fail
  obtain ⟨k1, k2, k3, k4, k5, k6, k7, k8, k9, k10⟩ : w1.drew.cell? ⟨w.heap.size, 0, none⟩ = some (.int .i64 m) ∧ w1.drew.cell? ⟨w.heap.size, 1, none⟩ = some (.int .i64 s) ∧ w1.drew.cell? ⟨w.heap.size + 1, 0, none⟩ = some (.int .i64 n) ∧ w1.drew.cell? ⟨w.heap.size + 1, 1, none⟩ = some (.int .i64 t) ∧ w1.drew.cell? ⟨w.heap.size + 1 + 1, 0, none⟩ = some (.int .i64 0) ∧ w1.drew.cell? ⟨w.heap.size + 1 + 1, 1, none⟩ = some (.int .i64 0) ∧ w1.drew.frozen? ⟨w.heap.size + 1 + 1, 0, none⟩ = false ∧ w1.drew.frozen? ⟨w.heap.size + 1 + 1, 1, none⟩ = false ∧ w.heap.size + 1 + 1 < w1.drew.heap.size ∧ Below w.heap.size w w1.drew :=
    ⟨by simp [go_sem, *], by simp [go_sem, *], by simp [go_sem, *], by simp [go_sem, *], by simp [go_sem, *], by simp [go_sem, *], by simp [go_sem, *], by simp [go_sem, *], hz, hbw.drew⟩
  clear cc ff hb1 hz hbw
  trace "region"
  go_region_with (first | ((with_reducible refine (HA.out _).mono ?_); rintro e w1 ⟨rfl, hb⟩; obtain ⟨_, _, _, _, _, _, _, _, _, _⟩ := keep6 (b := w.heap.size) (w := w) hb ⟨by assumption, by assumption, by assumption, by assumption, by assumption, by assumption, by assumption, by assumption, by assumption, by assumption⟩; clear hb) | ((with_reducible refine (HB.out _).mono ?_); rintro e w1 ⟨rfl, hb⟩; obtain ⟨_, _, _, _, _, _, _, _, _, _⟩ := keep6 (b := w.heap.size) (w := w) hb ⟨by assumption, by assumption, by assumption, by assumption, by assumption, by assumption, by assumption, by assumption, by assumption, by assumption⟩; clear hb) | ((with_reducible refine (HS.out _).mono ?_); rintro e w1 ⟨rfl, hb⟩; obtain ⟨_, _, _, _, _, _, _, _, _, _⟩ := keep6 (b := w.heap.size) (w := w) hb ⟨by assumption, by assumption, by assumption, by assumption, by assumption, by assumption, by assumption, by assumption, by assumption, by assumption⟩; clear hb) | ((with_reducible refine (HM.out _).mono ?_); rintro e w1 ⟨rfl, hb⟩; obtain ⟨_, _, _, _, _, _, _, _, _, _⟩ := keep6 (b := w.heap.size) (w := w) hb ⟨by assumption, by assumption, by assumption, by assumption, by assumption, by assumption, by assumption, by assumption, by assumption, by assumption⟩; clear hb))
  all_goals
    go_wp2_with fail
    refine bodyPost_ret (v := .tuple #[.agg #[.int .i64 rM, .int .i64 rS], .int .i64 rE]) (by simp [results, Tryz.results58, go_sem, *]) rfl ⟨rfl, ?_⟩
    go_grown
theorem madd_any (m s n t : Int) (hm : R m) (hs : R s) (hn : R n) (ht : R t) (w : World) :
    Calls Tryz.prog 58 #[.agg #[.int .i64 m, .int .i64 s], .agg #[.int .i64 n, .int .i64 t]] w fun e w' => e = .returned (.tuple #[.agg #[.int .i64 (addM m s n t), .int .i64 (addS m s n t)], .int .i64 (addE m s n t)]) ∧ Below w.heap.size w w' := by
  rcases cmp_two m s n t with ⟨h, h1, h2⟩ | h
  · exact madd_fine m s n t hm hs hn ht h h1 h2 w
  · exact madd_bad m s n t hm hs hn ht h w
end Go.Proofs.YtjhgiojmlkeccaaGreatDoor
namespace Go.Proofs.YtjhgiojmlkeccaaGreatDoor
open Go.RowKit
theorem field_wide (p q : Int) (w : World) : (Instr.field 150 (.agg #[.int .u64 p, .int .u64 q]) 0).run Tryz.prog w = .ok (.agg #[.int .u64 p, .int .u64 q]) w := by kernel_rfl
theorem cmp_fine {m s n t : Int} (h : may m s = true) (k : may n t = true) : cmpV m s n t = cmpI (scl m s) (scl n t) ∧ cmpE m s n t = 0 := by
  unfold cmpV cmpE; rw [h, k]; exact ⟨rfl, rfl⟩
theorem cmp_bad {m s n t : Int} (h : cmpE m s n t = 140) : cmpV m s n t = 0 := by
  unfold cmpV cmpE at *
  cases hc : (may m s && may n t) with
  | false => rfl
  | true => rw [hc] at h; exact absurd h (by decide)
theorem scl_pos_abs {m s : Int} (h : 0 ≤ m) : scl m s = mag m s := by
  have := scl_abs m s; have := scl_neg m s; omega
theorem scl_neg_abs {m s : Int} (h : m < 0) : scl m s = -(mag m s : Int) := by
  have := scl_abs m s; have := scl_neg m s; omega
theorem cmpI_minus (a b : Int) : cmpI (-a) (-b) = cmpI b a := by unfold cmpI; repeat' split
                                                                 all_goals omega
theorem than_mag (x y p q p' q' : Nat) (hx : x < 85070591730234615865843651857942052864) (hy : y < 85070591730234615865843651857942052864) (h1 : x = p * 18446744073709551616 + q) (h2 : y = p' * 18446744073709551616 + q') (hq : q < 18446744073709551616) (hq' : q' < 18446744073709551616) (w : World) :
    Calls Tryz.prog 94 #[.agg #[.int .u64 p, .int .u64 q], .agg #[.int .u64 p', .int .u64 q']] w fun e w' => e = .returned (.int .i64 (cmpI x y)) ∧ Below w.heap.size w w' := by
  subst h1; subst h2
  exact than_two p q p' q' hq hq' w
theorem wof_words (m s : Int) (hm : R m) (hs : 0 ≤ s) (hs2 : s ≤ 18) (t : TypeId) (ht : wv (scl m s) = wideV t (mag m s)) : ∃ p q : Nat, mag m s = p * 18446744073709551616 + q ∧ q < 18446744073709551616 ∧ Hid (∀ w, Calls Tryz.prog 93 #[.agg #[.int .i64 m, .int .i64 s]] w fun e w' => e = .returned (.iface t (.agg #[.int .u64 p, .int .u64 q])) ∧ Below w.heap.size w w') := by
  have hb := mag_bd m s hm
  obtain ⟨p, q, h1, h2, _, h4⟩ := two_part (mag m s) (by omega)
  refine ⟨p, q, h2, h4, Lib.hid fun w => ?_⟩
  have := wof_any m s hm hs hs2 w
  rw [ht, (iface_words h1).out] at this
  exact this
set_option maxRecDepth 100000 in
set_option maxHeartbeats 1000000 in
theorem mcmp_bad (m s n t : Int) (hm : R m) (hs : R s) (hn : R n) (ht : R t) (h : cmpE m s n t = 140) (w : World) :
    Calls Tryz.prog 57 #[.agg #[.int .i64 m, .int .i64 s], .agg #[.int .i64 n, .int .i64 t]] w fun e w' => e = .returned (.tuple #[.int .i64 (cmpV m s n t), .int .i64 (cmpE m s n t)]) ∧ Below w.heap.size w w' := by
  have H := Lib.hid (fun w => mboth_any m s n t hm hs hn ht w)
  rw [cmp_bad h]
  rw [h] at H ⊢
  clear h hm hs hn ht
  go_enter Tryz.func57, Tryz.ntmps57
  go_wp2_with fail
  refine (H.out _).mono ?_; rintro e w1 ⟨rfl, hb1⟩
  go_wp2_with fail
  go_ret2
  refine ⟨rfl, ?_⟩
  refine Below.trans ?_ (hb1.mono (by simp; omega))
  go_grown
/-- Two blocks of the call's own, side by side, behind a call that only makes blocks. -/
theorem keepA {w W w1 : World} {b : Nat} {x y x' y' : Value} (hb : Below W.heap.size W w1) (h : W.cell? ⟨b, 0, none⟩ = some x ∧ W.cell? ⟨b, 1, none⟩ = some y ∧ W.cell? ⟨b + 1, 0, none⟩ = some x' ∧ W.cell? ⟨b + 1, 1, none⟩ = some y' ∧ b + 1 < W.heap.size ∧ Below w.heap.size w W) :
    w1.cell? ⟨b, 0, none⟩ = some x ∧ w1.cell? ⟨b, 1, none⟩ = some y ∧ w1.cell? ⟨b + 1, 0, none⟩ = some x' ∧ w1.cell? ⟨b + 1, 1, none⟩ = some y' ∧ b + 1 < w1.heap.size ∧ Below w.heap.size w w1 := by
  obtain ⟨h0, h1, h2, h3, h4, h5⟩ := h
  obtain ⟨cc, ff⟩ := bcell hb
  exact ⟨(cc _ _ (by omega)).trans h0, (cc _ _ (by omega)).trans h1, (cc _ _ (by omega)).trans h2, (cc _ _ (by omega)).trans h3, Nat.lt_of_lt_of_le h4 hb.size, h5.trans (hb.mono h5.size)⟩
set_option maxRecDepth 100000 in
set_option maxHeartbeats 2000000 in
theorem mcmp_pp (m s n t : Int) (hm : R m) (hs : R s) (hn : R n) (ht : R t) (g1 : may m s = true) (g2 : may n t = true) (ca : 0 ≤ m) (cb : 0 ≤ n) (w : World) :
    Calls Tryz.prog 57 #[.agg #[.int .i64 m, .int .i64 s], .agg #[.int .i64 n, .int .i64 t]] w fun e w' => e = .returned (.tuple #[.int .i64 (cmpV m s n t), .int .i64 (cmpE m s n t)]) ∧ Below w.heap.size w w' := by
  have H := Lib.hid (fun w => mboth_any m s n t hm hs hn ht w)
  have hr : cmpI (scl m s) (scl n t) = cmpI (mag m s) (mag n t) := by rw [scl_pos_abs ca, scl_pos_abs cb]
  rw [(cmp_fine g1 g2).1, hr]
  rw [(cmp_fine g1 g2).2] at H ⊢
  have b1 := may_bd g1
  have b2 := may_bd g2
  obtain ⟨p, q, h1, hq, HA⟩ := wof_words m s hm b1.1 b1.2 146 (by rw [wv_pos (by have := scl_neg m s; omega), scl_abs])
  obtain ⟨p2, q2, h2, hq2, HB⟩ := wof_words n t hn b2.1 b2.2 146 (by rw [wv_pos (by have := scl_neg n t; omega), scl_abs])
  have HT := Lib.hid (fun w => than_mag _ _ p q p2 q2 (mag_bd m s hm) (mag_bd n t hn) h1 h2 hq hq2 w)
  generalize cmpI (mag m s) (mag n t) = rC at *
  clear hr g1 g2 b1 b2 h1 h2 hm hs hn ht ca cb
  have t1 := plus_plus
  go_enter Tryz.func57, Tryz.ntmps57
  go_wp2_with fail
  refine (H.out _).mono ?_; rintro e w1 ⟨rfl, hb1⟩
  obtain ⟨cc, ff⟩ := bcell hb1
  have hz : w.heap.size + 1 < w1.heap.size := by have := hb1.size; simp at this; omega
  have hbw : Below w.heap.size w w1 := by
    refine Below.trans ?_ (hb1.mono (by simp; omega))
    go_grown
  have d1 : w1.cell? ⟨w.heap.size, 0, none⟩ = some (.int .i64 m) := by simp [go_sem, *]
  have d2 : w1.cell? ⟨w.heap.size, 1, none⟩ = some (.int .i64 s) := by simp [go_sem, *]
  have d3 : w1.cell? ⟨w.heap.size + 1, 0, none⟩ = some (.int .i64 n) := by simp [go_sem, *]
  have d4 : w1.cell? ⟨w.heap.size + 1, 1, none⟩ = some (.int .i64 t) := by simp [go_sem, *]
  clear cc ff hb1
  go_wp2_with fail
  refine (HA.out _).mono ?_; rintro e w2 ⟨rfl, hb2⟩
  have y1 := keepA hb2 ⟨d1, d2, d3, d4, hz, hbw⟩
  clear d1 d2 d3 d4 hz hbw hb2
  obtain ⟨d1, d2, d3, d4, hz, hbw⟩ := y1
  have hz0 : w.heap.size < w2.heap.size := by omega
  go_wp2_with fail
  refine (HB.out _).mono ?_; rintro e w3 ⟨rfl, hb3⟩
  obtain ⟨cc, ff⟩ := bcell hb3
  have hz3 : w2.heap.size < w3.heap.size := by have := hb3.size; simp at this; omega
  have hzz : w.heap.size + 1 < w3.heap.size := by omega
  have hz00 : w.heap.size < w3.heap.size := by omega
  have hbw3 : Below w.heap.size w w3 := by
    refine Below.trans ?_ (hb3.mono (by simp; omega))
    go_grown
  have e1 : w3.cell? ⟨w.heap.size, 0, none⟩ = some (.int .i64 m) := by rw [cc _ _ (by simp; omega)]; simp [go_sem, *]
  have e2 : w3.cell? ⟨w.heap.size, 1, none⟩ = some (.int .i64 s) := by rw [cc _ _ (by simp; omega)]; simp [go_sem, *]
  have e3 : w3.cell? ⟨w.heap.size + 1, 0, none⟩ = some (.int .i64 n) := by rw [cc _ _ (by simp; omega)]; simp [go_sem, *]
  have e4 : w3.cell? ⟨w.heap.size + 1, 1, none⟩ = some (.int .i64 t) := by rw [cc _ _ (by simp; omega)]; simp [go_sem, *]
  have e5 : w3.cell? ⟨w2.heap.size, 0, none⟩ = some (.int .u64 p) := by rw [cc _ _ (by simp)]; simp [go_sem, *]
  have e6 : w3.cell? ⟨w2.heap.size, 1, none⟩ = some (.int .u64 q) := by rw [cc _ _ (by simp)]; simp [go_sem, *]
  clear cc ff d1 d2 d3 d4 hz hbw hb3
  go_wp2_with fail
  refine (HT.out _).mono ?_; rintro e w4 ⟨rfl, hb4⟩
  go_wp2_with fail
  go_ret2
  refine ⟨rfl, ?_⟩
  refine Below.trans ?_ (hb4.mono (by simp; omega))
  go_grown
set_option maxRecDepth 100000 in
set_option maxHeartbeats 2000000 in
theorem mcmp_pm (m s n t : Int) (hm : R m) (hs : R s) (hn : R n) (ht : R t) (g1 : may m s = true) (g2 : may n t = true) (ca : 0 ≤ m) (cb : n < 0) (w : World) :
    Calls Tryz.prog 57 #[.agg #[.int .i64 m, .int .i64 s], .agg #[.int .i64 n, .int .i64 t]] w fun e w' => e = .returned (.tuple #[.int .i64 (cmpV m s n t), .int .i64 (cmpE m s n t)]) ∧ Below w.heap.size w w' := by
  have H := Lib.hid (fun w => mboth_any m s n t hm hs hn ht w)
  have hr : cmpI (scl m s) (scl n t) = 1 := by have := scl_neg m s; have := scl_neg n t; unfold cmpI; rw [if_neg (by omega), if_neg (by omega)]
  rw [(cmp_fine g1 g2).1, hr]
  rw [(cmp_fine g1 g2).2] at H ⊢
  have b1 := may_bd g1
  have b2 := may_bd g2
  obtain ⟨p, q, h1, hq, HA⟩ := wof_words m s hm b1.1 b1.2 146 (by rw [wv_pos (by have := scl_neg m s; omega), scl_abs])
  obtain ⟨p2, q2, h2, hq2, HB⟩ := wof_words n t hn b2.1 b2.2 150 (by rw [wv_neg ((scl_neg n t).2 (by assumption)), scl_abs])
  
  
  clear hr g1 g2 b1 b2 h1 h2 hm hs hn ht ca cb
  have t1 := plus_plus
  have t2 := minus_plus
  go_enter Tryz.func57, Tryz.ntmps57
  go_wp2_with fail
  refine (H.out _).mono ?_; rintro e w1 ⟨rfl, hb1⟩
  obtain ⟨cc, ff⟩ := bcell hb1
  have hz : w.heap.size + 1 < w1.heap.size := by have := hb1.size; simp at this; omega
  have hbw : Below w.heap.size w w1 := by
    refine Below.trans ?_ (hb1.mono (by simp; omega))
    go_grown
  have d1 : w1.cell? ⟨w.heap.size, 0, none⟩ = some (.int .i64 m) := by simp [go_sem, *]
  have d2 : w1.cell? ⟨w.heap.size, 1, none⟩ = some (.int .i64 s) := by simp [go_sem, *]
  have d3 : w1.cell? ⟨w.heap.size + 1, 0, none⟩ = some (.int .i64 n) := by simp [go_sem, *]
  have d4 : w1.cell? ⟨w.heap.size + 1, 1, none⟩ = some (.int .i64 t) := by simp [go_sem, *]
  clear cc ff hb1
  go_wp2_with fail
  refine (HA.out _).mono ?_; rintro e w2 ⟨rfl, hb2⟩
  have y1 := keepA hb2 ⟨d1, d2, d3, d4, hz, hbw⟩
  clear d1 d2 d3 d4 hz hbw hb2
  obtain ⟨d1, d2, d3, d4, hz, hbw⟩ := y1
  have hz0 : w.heap.size < w2.heap.size := by omega
  go_wp2_with fail
  refine (HB.out _).mono ?_; rintro e w3 ⟨rfl, hb3⟩
  obtain ⟨cc, ff⟩ := bcell hb3
  have hz3 : w2.heap.size < w3.heap.size := by have := hb3.size; simp at this; omega
  have hzz : w.heap.size + 1 < w3.heap.size := by omega
  have hz00 : w.heap.size < w3.heap.size := by omega
  have hbw3 : Below w.heap.size w w3 := by
    refine Below.trans ?_ (hb3.mono (by simp; omega))
    go_grown
  have e1 : w3.cell? ⟨w.heap.size, 0, none⟩ = some (.int .i64 m) := by rw [cc _ _ (by simp; omega)]; simp [go_sem, *]
  have e2 : w3.cell? ⟨w.heap.size, 1, none⟩ = some (.int .i64 s) := by rw [cc _ _ (by simp; omega)]; simp [go_sem, *]
  have e3 : w3.cell? ⟨w.heap.size + 1, 0, none⟩ = some (.int .i64 n) := by rw [cc _ _ (by simp; omega)]; simp [go_sem, *]
  have e4 : w3.cell? ⟨w.heap.size + 1, 1, none⟩ = some (.int .i64 t) := by rw [cc _ _ (by simp; omega)]; simp [go_sem, *]
  have e5 : w3.cell? ⟨w2.heap.size, 0, none⟩ = some (.int .u64 p) := by rw [cc _ _ (by simp)]; simp [go_sem, *]
  have e6 : w3.cell? ⟨w2.heap.size, 1, none⟩ = some (.int .u64 q) := by rw [cc _ _ (by simp)]; simp [go_sem, *]
  clear cc ff d1 d2 d3 d4 hz hbw hb3
  go_wp2_with fail
  go_ret2
  refine ⟨rfl, ?_⟩
  go_grown
set_option maxRecDepth 100000 in
set_option maxHeartbeats 2000000 in
theorem mcmp_mp (m s n t : Int) (hm : R m) (hs : R s) (hn : R n) (ht : R t) (g1 : may m s = true) (g2 : may n t = true) (ca : m < 0) (cb : 0 ≤ n) (w : World) :
    Calls Tryz.prog 57 #[.agg #[.int .i64 m, .int .i64 s], .agg #[.int .i64 n, .int .i64 t]] w fun e w' => e = .returned (.tuple #[.int .i64 (cmpV m s n t), .int .i64 (cmpE m s n t)]) ∧ Below w.heap.size w w' := by
  have H := Lib.hid (fun w => mboth_any m s n t hm hs hn ht w)
  have hr : cmpI (scl m s) (scl n t) = (-1) := by have := scl_neg m s; have := scl_neg n t; unfold cmpI; rw [if_pos (by omega)]
  rw [(cmp_fine g1 g2).1, hr]
  rw [(cmp_fine g1 g2).2] at H ⊢
  have b1 := may_bd g1
  have b2 := may_bd g2
  obtain ⟨p, q, h1, hq, HA⟩ := wof_words m s hm b1.1 b1.2 150 (by rw [wv_neg ((scl_neg m s).2 (by assumption)), scl_abs])
  obtain ⟨p2, q2, h2, hq2, HB⟩ := wof_words n t hn b2.1 b2.2 146 (by rw [wv_pos (by have := scl_neg n t; omega), scl_abs])
  
  
  clear hr g1 g2 b1 b2 h1 h2 hm hs hn ht ca cb
  have t1 := plus_plus
  have t2 := minus_plus
  go_enter Tryz.func57, Tryz.ntmps57
  go_wp2_with fail
  refine (H.out _).mono ?_; rintro e w1 ⟨rfl, hb1⟩
  obtain ⟨cc, ff⟩ := bcell hb1
  have hz : w.heap.size + 1 < w1.heap.size := by have := hb1.size; simp at this; omega
  have hbw : Below w.heap.size w w1 := by
    refine Below.trans ?_ (hb1.mono (by simp; omega))
    go_grown
  have d1 : w1.cell? ⟨w.heap.size, 0, none⟩ = some (.int .i64 m) := by simp [go_sem, *]
  have d2 : w1.cell? ⟨w.heap.size, 1, none⟩ = some (.int .i64 s) := by simp [go_sem, *]
  have d3 : w1.cell? ⟨w.heap.size + 1, 0, none⟩ = some (.int .i64 n) := by simp [go_sem, *]
  have d4 : w1.cell? ⟨w.heap.size + 1, 1, none⟩ = some (.int .i64 t) := by simp [go_sem, *]
  clear cc ff hb1
  go_wp2_with fail
  refine (HA.out _).mono ?_; rintro e w2 ⟨rfl, hb2⟩
  have y1 := keepA hb2 ⟨d1, d2, d3, d4, hz, hbw⟩
  clear d1 d2 d3 d4 hz hbw hb2
  obtain ⟨d1, d2, d3, d4, hz, hbw⟩ := y1
  have hz0 : w.heap.size < w2.heap.size := by omega
  go_wp2_with fail
  refine (HB.out _).mono ?_; rintro e w3 ⟨rfl, hb3⟩
  obtain ⟨cc, ff⟩ := bcell hb3
  have hz3 : w2.heap.size < w3.heap.size := by have := hb3.size; simp at this; omega
  have hzz : w.heap.size + 1 < w3.heap.size := by omega
  have hz00 : w.heap.size < w3.heap.size := by omega
  have hbw3 : Below w.heap.size w w3 := by
    refine Below.trans ?_ (hb3.mono (by simp; omega))
    go_grown
  have e1 : w3.cell? ⟨w.heap.size, 0, none⟩ = some (.int .i64 m) := by rw [cc _ _ (by simp; omega)]; simp [go_sem, *]
  have e2 : w3.cell? ⟨w.heap.size, 1, none⟩ = some (.int .i64 s) := by rw [cc _ _ (by simp; omega)]; simp [go_sem, *]
  have e3 : w3.cell? ⟨w.heap.size + 1, 0, none⟩ = some (.int .i64 n) := by rw [cc _ _ (by simp; omega)]; simp [go_sem, *]
  have e4 : w3.cell? ⟨w.heap.size + 1, 1, none⟩ = some (.int .i64 t) := by rw [cc _ _ (by simp; omega)]; simp [go_sem, *]
  have e5 : w3.cell? ⟨w2.heap.size, 0, none⟩ = some (.int .u64 0) := by rw [cc _ _ (by simp)]; simp [go_sem, *]
  have e6 : w3.cell? ⟨w2.heap.size, 1, none⟩ = some (.int .u64 0) := by rw [cc _ _ (by simp)]; simp [go_sem, *]
  clear cc ff d1 d2 d3 d4 hz hbw hb3
  go_wp2_with fail
  go_ret2
  refine ⟨rfl, ?_⟩
  go_grown
set_option maxRecDepth 100000 in
set_option maxHeartbeats 2000000 in
theorem mcmp_mm (m s n t : Int) (hm : R m) (hs : R s) (hn : R n) (ht : R t) (g1 : may m s = true) (g2 : may n t = true) (ca : m < 0) (cb : n < 0) (w : World) :
    Calls Tryz.prog 57 #[.agg #[.int .i64 m, .int .i64 s], .agg #[.int .i64 n, .int .i64 t]] w fun e w' => e = .returned (.tuple #[.int .i64 (cmpV m s n t), .int .i64 (cmpE m s n t)]) ∧ Below w.heap.size w w' := by
  have H := Lib.hid (fun w => mboth_any m s n t hm hs hn ht w)
  have hr : cmpI (scl m s) (scl n t) = cmpI (mag n t) (mag m s) := by rw [scl_neg_abs ca, scl_neg_abs cb, cmpI_minus]
  rw [(cmp_fine g1 g2).1, hr]
  rw [(cmp_fine g1 g2).2] at H ⊢
  have b1 := may_bd g1
  have b2 := may_bd g2
  obtain ⟨p, q, h1, hq, HA⟩ := wof_words m s hm b1.1 b1.2 150 (by rw [wv_neg ((scl_neg m s).2 (by assumption)), scl_abs])
  obtain ⟨p2, q2, h2, hq2, HB⟩ := wof_words n t hn b2.1 b2.2 150 (by rw [wv_neg ((scl_neg n t).2 (by assumption)), scl_abs])
  have HT := Lib.hid (fun w => than_mag _ _ p2 q2 p q (mag_bd n t hn) (mag_bd m s hm) h2 h1 hq2 hq w)
  generalize cmpI (mag n t) (mag m s) = rC at *
  clear hr g1 g2 b1 b2 h1 h2 hm hs hn ht ca cb
  have t2 := minus_plus
  have t3 := is_minus
  have t4 := field_wide
  go_enter Tryz.func57, Tryz.ntmps57
  go_wp2_with fail
  refine (H.out _).mono ?_; rintro e w1 ⟨rfl, hb1⟩
  obtain ⟨cc, ff⟩ := bcell hb1
  have hz : w.heap.size + 1 < w1.heap.size := by have := hb1.size; simp at this; omega
  have hbw : Below w.heap.size w w1 := by
    refine Below.trans ?_ (hb1.mono (by simp; omega))
    go_grown
  have d1 : w1.cell? ⟨w.heap.size, 0, none⟩ = some (.int .i64 m) := by simp [go_sem, *]
  have d2 : w1.cell? ⟨w.heap.size, 1, none⟩ = some (.int .i64 s) := by simp [go_sem, *]
  have d3 : w1.cell? ⟨w.heap.size + 1, 0, none⟩ = some (.int .i64 n) := by simp [go_sem, *]
  have d4 : w1.cell? ⟨w.heap.size + 1, 1, none⟩ = some (.int .i64 t) := by simp [go_sem, *]
  clear cc ff hb1
  go_wp2_with fail
  refine (HA.out _).mono ?_; rintro e w2 ⟨rfl, hb2⟩
  have y1 := keepA hb2 ⟨d1, d2, d3, d4, hz, hbw⟩
  clear d1 d2 d3 d4 hz hbw hb2
  obtain ⟨d1, d2, d3, d4, hz, hbw⟩ := y1
  have hz0 : w.heap.size < w2.heap.size := by omega
  go_wp2_with fail
  refine (HB.out _).mono ?_; rintro e w3 ⟨rfl, hb3⟩
  obtain ⟨cc, ff⟩ := bcell hb3
  have hz3 : w2.heap.size < w3.heap.size := by have := hb3.size; simp at this; omega
  have hzz : w.heap.size + 1 < w3.heap.size := by omega
  have hz00 : w.heap.size < w3.heap.size := by omega
  have hbw3 : Below w.heap.size w w3 := by
    refine Below.trans ?_ (hb3.mono (by simp; omega))
    go_grown
  have e1 : w3.cell? ⟨w.heap.size, 0, none⟩ = some (.int .i64 m) := by rw [cc _ _ (by simp; omega)]; simp [go_sem, *]
  have e2 : w3.cell? ⟨w.heap.size, 1, none⟩ = some (.int .i64 s) := by rw [cc _ _ (by simp; omega)]; simp [go_sem, *]
  have e3 : w3.cell? ⟨w.heap.size + 1, 0, none⟩ = some (.int .i64 n) := by rw [cc _ _ (by simp; omega)]; simp [go_sem, *]
  have e4 : w3.cell? ⟨w.heap.size + 1, 1, none⟩ = some (.int .i64 t) := by rw [cc _ _ (by simp; omega)]; simp [go_sem, *]
  have e5 : w3.cell? ⟨w2.heap.size, 0, none⟩ = some (.int .u64 0) := by rw [cc _ _ (by simp)]; simp [go_sem, *]
  have e6 : w3.cell? ⟨w2.heap.size, 1, none⟩ = some (.int .u64 0) := by rw [cc _ _ (by simp)]; simp [go_sem, *]
  clear cc ff d1 d2 d3 d4 hz hbw hb3
  go_wp2_with fail
  go_region_held3 (fun W => W.cell? ⟨w.heap.size, 0, none⟩ = some (.int .i64 m) ∧ W.cell? ⟨w.heap.size, 1, none⟩ = some (.int .i64 s) ∧ W.cell? ⟨w.heap.size + 1, 0, none⟩ = some (.int .i64 n) ∧ W.cell? ⟨w.heap.size + 1, 1, none⟩ = some (.int .i64 t) ∧ w.heap.size + 1 < W.heap.size ∧ Below w.heap.size w W)
     (first | assumption | exact keepA (by assumption) (by assumption) | (refine ⟨by simp [go_sem, *], by simp [go_sem, *], by simp [go_sem, *], by simp [go_sem, *], by simp; omega, ?_⟩; go_grown; done))
     (first | ((with_reducible refine (HA.out _).mono ?_); rintro e w1 ⟨rfl, hb⟩) | ((with_reducible refine (HB.out _).mono ?_); rintro e w1 ⟨rfl, hb⟩) | ((with_reducible refine (HT.out _).mono ?_); rintro e w1 ⟨rfl, hb⟩))
  all_goals
    rename_i hS
    obtain ⟨_, _, _, _, _, hS6⟩ := hS
    go_wp2
    go_ret2
    exact ⟨rfl, hS6⟩
theorem mcmp_any (m s n t : Int) (hm : R m) (hs : R s) (hn : R n) (ht : R t) (w : World) :
    Calls Tryz.prog 57 #[.agg #[.int .i64 m, .int .i64 s], .agg #[.int .i64 n, .int .i64 t]] w fun e w' => e = .returned (.tuple #[.int .i64 (cmpV m s n t), .int .i64 (cmpE m s n t)]) ∧ Below w.heap.size w w' := by
  rcases cmp_two m s n t with ⟨h, h1, h2⟩ | h
  · by_cases ca : m < 0
    · by_cases cb : n < 0
      · exact mcmp_mm m s n t hm hs hn ht h1 h2 ca cb w
      · exact mcmp_mp m s n t hm hs hn ht h1 h2 ca (by omega) w
    · by_cases cb : n < 0
      · exact mcmp_pm m s n t hm hs hn ht h1 h2 (by omega) cb w
      · exact mcmp_pp m s n t hm hs hn ht h1 h2 (by omega) (by omega) w
  · exact mcmp_bad m s n t hm hs hn ht h w
end Go.Proofs.YtjhgiojmlkeccaaGreatDoor
namespace Go.Proofs.YtjhgiojmlkeccaaGreatDoor
open Go.RowKit Go.Shelf
theorem ent_number : ∀ args w, (callFunc 24 args).run Tryz.prog w = .ok (.enter 24 args) w := enters_of Tryz.func24 (by kernel_rfl) rfl
theorem ent_told : ∀ args w, (callFunc 46 args).run Tryz.prog w = .ok (.enter 46 args) w := enters_of Tryz.func46 (by kernel_rfl) rfl
theorem ent_digs : ∀ args w, (callFunc 48 args).run Tryz.prog w = .ok (.enter 48 args) w := enters_of Tryz.func48 (by kernel_rfl) rfl
theorem ent_some : ∀ args w, (callFunc 32 args).run Tryz.prog w = .ok (.enter 32 args) w := enters_of Tryz.func32 (by kernel_rfl) rfl
theorem ent_dec : ∀ args w, (callFunc 36 args).run Tryz.prog w = .ok (.enter 36 args) w := enters_of Tryz.func36 (by kernel_rfl) rfl
theorem ent_same : ∀ args w, (callFunc 29 args).run Tryz.prog w = .ok (.enter 29 args) w := enters_of Tryz.func29 (by kernel_rfl) rfl
theorem ent_bool : ∀ args w, (callFunc 30 args).run Tryz.prog w = .ok (.enter 30 args) w := enters_of Tryz.func30 (by kernel_rfl) rfl
theorem ent_bytes : ∀ args w, (callFunc 22 args).run Tryz.prog w = .ok (.enter 22 args) w := enters_of Tryz.func22 (by kernel_rfl) rfl
theorem ent_cmpi : ∀ args w, (callFunc 25 args).run Tryz.prog w = .ok (.enter 25 args) w := enters_of Tryz.func25 (by kernel_rfl) rfl
/-- What the library's variables hold, for the scalars. -/
structure EnvS (w : World) : Prop where
  u : EnvU w
  r : Env w
theorem EnvS.below {w w' : World} (h : EnvS w) (hb : Below w.heap.size w w') : EnvS w' := ⟨h.u.below hb, h.r.stays hb⟩
def sameC : ByteArray → ByteArray × Int := fun s => (s, 0)
def someC : ByteArray → ByteArray × Int := fun s => if s.toList = [] then (⟨#[]⟩, 160) else (s, 0)
def decC : ByteArray → ByteArray × Int := fun s => if pE s.data.toList = 0 then (⟨(tx (pM s.data.toList) (pS s.data.toList)).toArray⟩, chk (pM s.data.toList) (pS s.data.toList)) else (⟨#[]⟩, pE s.data.toList)
theorem pM_Rs (l : List UInt8) : R (pM l) ∧ R (pS l) := by
  cases h : parseOk l with
  | false =>
    obtain ⟨e1, e2, _⟩ := p_bad l h
    rw [e1, e2]; unfold R; omega
  | true =>
    obtain ⟨h1, h2, _⟩ := parse_may l h
    have := may_bd h1
    exact ⟨h2, by unfold R; omega⟩
theorem same_c (w : World) : CanC w 29 #[] sameC := fun s _ W _ => by rw [app_nil]; exact same_any s W
theorem some_c (w : World) : CanC w 32 #[] someC := fun s _ W _ => by
  rw [app_nil]; unfold someC
  by_cases h : s.toList = []
  · rw [if_pos h]
    obtain rfl : s = ⟨#[]⟩ := by
      rw [ByteArray.toList_eq] at h
      have : s.data = #[] := Array.toList_inj.1 (by rw [h])
      cases s; simp_all
    exact some_no W
  · rw [if_neg h]
    exact some_yes s (by simpa using h) h W
theorem mparse_d (s : ByteArray) (hs : s.size ≤ 1000000) (w : World) (he : Env w) : DoesU w 55 #[.string s] (.tuple #[.agg #[.int .i64 (pM s.data.toList), .int .i64 (pS s.data.toList)], .int .i64 (pE s.data.toList)]) := fun W hW => mparse_any s hs W (he.stays hW)
theorem mtext_d (m s : Int) (hm : R m) (hs : R s) (w : World) (he : Env w) : DoesU w 56 #[.agg #[.int .i64 m, .int .i64 s]] (.tuple #[.string ⟨(tx m s).toArray⟩, .int .i64 (chk m s)]) := fun W hW => mtext_any m s hm hs W (he.stays hW).tab
theorem dec_c (w : World) (he : Env w) : CanC w 36 #[] decC := fun s hs W hW => by
  rw [app_nil]; unfold decC
  have hP := mparse_d s (by omega) W (he.stays hW)
  have hT := mtext_d _ _ (pM_Rs s.data.toList).1 (pM_Rs s.data.toList).2 W (he.stays hW)
  by_cases h : pE s.data.toList = 0
  · rw [if_pos h]
    rw [h] at hP
    exact decimal_go s _ _ _ _ W (Lib.hid hP) (Lib.hid hT)
  · rw [if_neg h]
    exact decimal_no s _ _ _ (by simpa using h) W (Lib.hid hP)
theorem kind_1 (w : World) (hE : EnvS w) :
    Calls Tryz.prog 15 #[.int .u8 1] w fun e w' => (∃ cap : Array Value, e = .returned (.tuple #[.agg #[.func (.func 24) #[] cap, (.func (.func 25) #[] #[]), (.func (.func 27) #[] #[]), .bool false], .int .i64 0]) ∧ PlC w' 24 cap (.func (.func 25) #[] #[]) (.func (.func 27) #[] #[]) false numR) ∧ Below w.heap.size w w' := by
  refine (of_1 w).mono ?_
  rintro e w1 ⟨rfl, hb⟩
  exact ⟨⟨_, rfl, plain_c _ _ _ _ _ _ w1 ent_number (number_c w1)⟩, hb⟩
theorem kind_2 (w : World) (hE : EnvS w) :
    Calls Tryz.prog 15 #[.int .u8 2] w fun e w' => (∃ cap : Array Value, e = .returned (.tuple #[.agg #[.func (.func 46) #[] cap, (.func (.func 22) #[] #[]), .nilFunc, .bool true], .int .i64 0]) ∧ PlC w' 46 cap (.func (.func 22) #[] #[]) .nilFunc true (toldR sameC)) ∧ Below w.heap.size w w' := by
  refine (of_2 w).mono ?_
  rintro e w1 ⟨⟨p2, rfl, h1⟩, hb⟩
  exact ⟨⟨_, rfl, plain_c _ _ _ _ _ _ w1 ent_told (told_c p2 _ #[] sameC w1 h1 ent_same (hE.u.below hb) (same_c w1))⟩, hb⟩
theorem kind_3 (w : World) (hE : EnvS w) :
    Calls Tryz.prog 15 #[.int .u8 3] w fun e w' => (∃ cap : Array Value, e = .returned (.tuple #[.agg #[.func (.func 30) #[] cap, .nilFunc, .nilFunc, .bool false], .int .i64 0]) ∧ PlC w' 30 cap .nilFunc .nilFunc false boolR) ∧ Below w.heap.size w w' := by
  refine (of_3 w).mono ?_
  rintro e w1 ⟨rfl, hb⟩
  exact ⟨⟨_, rfl, plain_c _ _ _ _ _ _ w1 ent_bool (bool_c w1)⟩, hb⟩
theorem kind_4 (w : World) (hE : EnvS w) :
    Calls Tryz.prog 15 #[.int .u8 4] w fun e w' => (∃ cap : Array Value, e = .returned (.tuple #[.agg #[.func (.func 48) #[] cap, (.func (.func 22) #[] #[]), .nilFunc, .bool true], .int .i64 0]) ∧ PlC w' 48 cap (.func (.func 22) #[] #[]) .nilFunc true (digsR (toldR someC))) ∧ Below w.heap.size w w' := by
  refine (of_4 w).mono ?_
  rintro e w1 ⟨⟨q4, p4, rfl, h1, h2⟩, hb⟩
  exact ⟨⟨_, rfl, plain_c _ _ _ _ _ _ w1 ent_digs (digs_c q4 _ _ _ w1 h1 ent_told (hE.r.stays hb).tab (told_c p4 _ #[] someC w1 h2 ent_some (hE.u.below hb) (some_c w1)))⟩, hb⟩
theorem kind_7 (w : World) (hE : EnvS w) :
    Calls Tryz.prog 15 #[.int .u8 7] w fun e w' => (∃ cap : Array Value, e = .returned (.tuple #[.agg #[.func (.func 48) #[] cap, (.func (.func 37) #[] #[]), (.func (.func 38) #[] #[]), .bool false], .int .i64 0]) ∧ PlC w' 48 cap (.func (.func 37) #[] #[]) (.func (.func 38) #[] #[]) false (digsR (toldR decC))) ∧ Below w.heap.size w w' := by
  refine (of_7 w).mono ?_
  rintro e w1 ⟨⟨q7, p7, rfl, h1, h2⟩, hb⟩
  exact ⟨⟨_, rfl, plain_c _ _ _ _ _ _ w1 ent_digs (digs_c q7 _ _ _ w1 h1 ent_told (hE.r.stays hb).tab (told_c p7 _ #[] decC w1 h2 ent_dec (hE.u.below hb) (dec_c w1 (hE.r.stays hb))))⟩, hb⟩
end Go.Proofs.YtjhgiojmlkeccaaGreatDoor
namespace Go.Proofs.YtjhgiojmlkeccaaGreatDoor
open Go.RowKit Go.Shelf
theorem empty_toList : (⟨#[]⟩ : ByteArray).toList = [] := by rw [ByteArray.toList_eq]
theorem plainR_go (rd : RdV) (ck : Int) (tx : ByteArray) (n : Int) (h : if ck = 3 then n = 0 else tx.toList = []) : plainR rd ck tx n 0 = rd ck tx n := if_pos ⟨rfl, h⟩
/-- What 'of' gives. -/
def KindC (w : World) (k : Int) (g : Nat) (c a : Value) (l : Bool) (rd : RdV) : Prop := ∀ W, Below w.heap.size w W → Calls Tryz.prog 15 #[.int .u8 k] W fun e w' => (∃ cap : Array Value, e = .returned (.tuple #[.agg #[.func (.func g) #[] cap, c, a, .bool l], .int .i64 0]) ∧ PlC w' g cap c a l rd) ∧ Below W.heap.size W w'
theorem KindC.below {w w' : World} {k : Int} {g : Nat} {c a : Value} {l : Bool} {rd : RdV} (h : KindC w k g c a l rd) (hb : Below w.heap.size w w') : KindC w' k g c a l rd := fun W hW => h W (hb.trans (hW.mono hb.size))
theorem readK_go (w : World) (k : Int) (g : Nat) (c a : Value) (l : Bool) (rd : RdV) (HK : KindC w k g c a l rd) (hc : c.oneCell' = true) (ha : a.oneCell' = true) (ck : Int) (nm tx : ByteArray) (n m : Int) (h0 : 0 ≤ ck) (h1 : ck ≤ 255) (h2 : tx.size ≤ 1000000) (h3 : R n) (h4 : R m) (hr : (plainR rd ck tx n m).2.2.2 = true) :
    DoesU w 8 #[.int .u8 k, .agg #[.int .u8 ck, .string nm, .string tx, .int .i64 n, .int .i64 m]] (.tuple #[.agg #[.int .u8 (plainR rd ck tx n m).1, .string ⟨#[]⟩, .string (plainR rd ck tx n m).2.1, .int .i64 (plainR rd ck tx n m).2.2.1, .int .i64 0], .int .i64 0]) := fun W hW =>
  sread_go k ck nm tx n m _ _ _ _ _ W (Lib.hid fun W' hW' => (HK.below hW W' hW').mono fun e w' ⟨⟨cap, he, hp⟩, hb⟩ => ⟨⟨g, cap, c, a, l, he, Lib.hid ⟨hc, ha⟩, Lib.hid (by have := hp ck nm tx n m h0 h1 h2 h3 h4; rw [hr] at this; exact this)⟩, hb⟩)
theorem readK_no (w : World) (k : Int) (g : Nat) (c a : Value) (l : Bool) (rd : RdV) (HK : KindC w k g c a l rd) (hc : c.oneCell' = true) (ha : a.oneCell' = true) (ck : Int) (nm tx : ByteArray) (n m : Int) (h0 : 0 ≤ ck) (h1 : ck ≤ 255) (h2 : tx.size ≤ 1000000) (h3 : R n) (h4 : R m) (hr : (plainR rd ck tx n m).2.2.2 = false) :
    DoesU w 8 #[.int .u8 k, .agg #[.int .u8 ck, .string nm, .string tx, .int .i64 n, .int .i64 m]] (.tuple #[.agg #[.int .u8 0, .string ⟨#[]⟩, .string ⟨#[]⟩, .int .i64 0, .int .i64 0], .int .i64 160]) := fun W hW =>
  sread_no k ck nm tx n m (plainR rd ck tx n m).1 ⟨#[]⟩ (plainR rd ck tx n m).2.1 (plainR rd ck tx n m).2.2.1 0 W (Lib.hid fun W' hW' => (HK.below hW W' hW').mono fun e w' ⟨⟨cap, he, hp⟩, hb⟩ => ⟨⟨g, cap, c, a, l, he, Lib.hid ⟨hc, ha⟩, Lib.hid (by have := hp ck nm tx n m h0 h1 h2 h3 h4; rw [hr] at this; exact this)⟩, hb⟩)
theorem v_150 : plainR (digsR (toldR decC)) 3 ⟨#[49, 46, 53, 48]⟩ 0 0 = (3, ⟨#[49, 46, 53]⟩, 0, true) := by
  rw [plainR_go _ _ _ _ (by rw [if_pos rfl])]; decide +kernel
theorem v_3 : plainR (digsR (toldR decC)) 2 ⟨#[]⟩ 3 0 = (3, ⟨#[51]⟩, 0, true) := by
  rw [plainR_go _ _ _ _ (by rw [if_neg (by decide)]; exact empty_toList)]; decide +kernel
theorem v_7 : plainR (digsR (toldR someC)) 2 ⟨#[]⟩ 7 0 = (3, ⟨#[55]⟩, 0, true) := by
  rw [plainR_go _ _ _ _ (by rw [if_neg (by decide)]; exact empty_toList)]; decide +kernel
theorem v_big : plainR numR 2 ⟨#[]⟩ 2147483648 0 = (2, ⟨#[]⟩, 2147483648, false) := by
  rw [plainR_go _ _ _ _ (by rw [if_neg (by decide)]; exact empty_toList)]; decide +kernel
theorem kindc_1 (w : World) (hE : EnvS w) : KindC w 1 24 (.func (.func 25) #[] #[]) (.func (.func 27) #[] #[]) false numR := fun W hW => kind_1 W (hE.below hW)
theorem kindc_2 (w : World) (hE : EnvS w) : KindC w 2 46 (.func (.func 22) #[] #[]) .nilFunc true (toldR sameC) := fun W hW => kind_2 W (hE.below hW)
theorem kindc_3 (w : World) (hE : EnvS w) : KindC w 3 30 .nilFunc .nilFunc false boolR := fun W hW => kind_3 W (hE.below hW)
theorem kindc_4 (w : World) (hE : EnvS w) : KindC w 4 48 (.func (.func 22) #[] #[]) .nilFunc true (digsR (toldR someC)) := fun W hW => kind_4 W (hE.below hW)
theorem kindc_7 (w : World) (hE : EnvS w) : KindC w 7 48 (.func (.func 37) #[] #[]) (.func (.func 38) #[] #[]) false (digsR (toldR decC)) := fun W hW => kind_7 W (hE.below hW)
theorem r_150 (w : World) (hE : EnvS w) : DoesU w 8 #[.int .u8 7, .agg #[.int .u8 3, .string ⟨#[]⟩, .string ⟨#[49, 46, 53, 48]⟩, .int .i64 0, .int .i64 0]] (.tuple #[.agg #[.int .u8 3, .string ⟨#[]⟩, .string ⟨#[49, 46, 53]⟩, .int .i64 0, .int .i64 0], .int .i64 0]) := by
  have := readK_go w 7 _ _ _ _ _ (kindc_7 w hE) rfl rfl 3 ⟨#[]⟩ ⟨#[49, 46, 53, 48]⟩ 0 0 (by omega) (by omega) (by decide) (by unfold R; omega) (by unfold R; omega) (by rw [v_150])
  rw [v_150] at this
  exact this
theorem r_3 (w : World) (hE : EnvS w) : DoesU w 8 #[.int .u8 7, .agg #[.int .u8 2, .string ⟨#[]⟩, .string ⟨#[]⟩, .int .i64 3, .int .i64 0]] (.tuple #[.agg #[.int .u8 3, .string ⟨#[]⟩, .string ⟨#[51]⟩, .int .i64 0, .int .i64 0], .int .i64 0]) := by
  have := readK_go w 7 _ _ _ _ _ (kindc_7 w hE) rfl rfl 2 ⟨#[]⟩ ⟨#[]⟩ 3 0 (by omega) (by omega) (by decide) (by unfold R; omega) (by unfold R; omega) (by rw [v_3])
  rw [v_3] at this
  exact this
theorem r_7 (w : World) (hE : EnvS w) : DoesU w 8 #[.int .u8 4, .agg #[.int .u8 2, .string ⟨#[]⟩, .string ⟨#[]⟩, .int .i64 7, .int .i64 0]] (.tuple #[.agg #[.int .u8 3, .string ⟨#[]⟩, .string ⟨#[55]⟩, .int .i64 0, .int .i64 0], .int .i64 0]) := by
  have := readK_go w 4 _ _ _ _ _ (kindc_4 w hE) rfl rfl 2 ⟨#[]⟩ ⟨#[]⟩ 7 0 (by omega) (by omega) (by decide) (by unfold R; omega) (by unfold R; omega) (by rw [v_7])
  rw [v_7] at this
  exact this
theorem r_big (w : World) (hE : EnvS w) : DoesU w 8 #[.int .u8 1, .agg #[.int .u8 2, .string ⟨#[]⟩, .string ⟨#[]⟩, .int .i64 2147483648, .int .i64 0]] (.tuple #[.agg #[.int .u8 0, .string ⟨#[]⟩, .string ⟨#[]⟩, .int .i64 0, .int .i64 0], .int .i64 160]) := by
  have := readK_no w 1 _ _ _ _ _ (kindc_1 w hE) rfl rfl 2 ⟨#[]⟩ ⟨#[]⟩ 2147483648 0 (by omega) (by omega) (by decide) (by unfold R; omega) (by unfold R; omega) (by rw [v_big])
  exact this
set_option maxRecDepth 100000 in
set_option maxHeartbeats 4000000 in
theorem ltext_d (s : ByteArray) (w : World) : DoesU w 12 #[.string s] (.agg #[.int .u8 3, .string ⟨#[]⟩, .string s, .int .i64 0, .int .i64 0]) := fun W _ => by
  go_enter Tryz.func12, Tryz.ntmps12
  go_wp2_with fail
  go_returns
  exact ⟨rfl, by go_grown⟩
set_option maxRecDepth 100000 in
set_option maxHeartbeats 4000000 in
theorem lnumber_d (n : Int) (w : World) : DoesU w 13 #[.int .i64 n] (.agg #[.int .u8 2, .string ⟨#[]⟩, .string ⟨#[]⟩, .int .i64 n, .int .i64 0]) := fun W _ => by
  go_enter Tryz.func13, Tryz.ntmps13
  go_wp2_with fail
  go_returns
  exact ⟨rfl, by go_grown⟩
set_option maxRecDepth 100000 in
set_option maxHeartbeats 4000000 in
theorem reads_yes (k : Int) (k1 : Int) (nm1 tx1 : ByteArray) (n1 m1 : Int) (k2 : Int) (nm2 tx2 : ByteArray) (n2 m2 : Int) (w : World) (HR : Hid (DoesU w 8 #[.int .u8 k, .agg #[.int .u8 k1, .string nm1, .string tx1, .int .i64 n1, .int .i64 m1]] (.tuple #[.agg #[.int .u8 k2, .string nm2, .string tx2, .int .i64 n2, .int .i64 m2], .int .i64 0]))) :
    Calls Tryz.prog 9 #[.int .u8 k, .agg #[.int .u8 k1, .string nm1, .string tx1, .int .i64 n1, .int .i64 m1], .agg #[.int .u8 k2, .string nm2, .string tx2, .int .i64 n2, .int .i64 m2]] w fun e w' => e = .returned (.bool true) ∧ Below w.heap.size w w' := by
  go_enter Tryz.func9, Tryz.ntmps9
  go_wp2_with fail
  refine (HR.out _ (by first | exact Below.refl _ _ | (go_grown; done))).mono ?_; rintro e w1 ⟨rfl, hb⟩
  have hh0 : w1.heap[w.heap.size]? = some (.cells #[.int .u8 k1, .string nm1, .string tx1, .int .i64 n1, .int .i64 m1] 23 (0, 0)) := (hb.block _ (by first | omega | (simp; done) | (simp; omega))).trans (heap_old (o' := (.cells #[.int .u8 k2, .string nm2, .string tx2, .int .i64 n2, .int .i64 m2] 23 (0, 0))) (heap_new _ _ _ (by first | rfl | simp)))
  have hh1 : w1.heap[w.heap.size + 1]? = some (.cells #[.int .u8 k2, .string nm2, .string tx2, .int .i64 n2, .int .i64 m2] 23 (0, 0)) := (hb.block _ (by first | omega | (simp; done) | (simp; omega))).trans (heap_new _ _ _ (by first | rfl | simp))
  have hbw1 : Below w.heap.size w w1 := (show Below w.heap.size w _ by first | exact Below.refl _ _ | (go_grown; done)).trans (hb.mono (by first | omega | (simp; done) | (simp; omega)))
  clear hb
  have HH0_1 := Lib.hid hh0
  have lt0 := heap_lt hh0
  have c0_0 : w1.cell? ⟨w.heap.size, 0, none⟩ = some (.int .u8 k1) := by rw [Lib.cell_of_heap hh0]; rfl
  have c0_1 : w1.cell? ⟨w.heap.size, 1, none⟩ = some (.string nm1) := by rw [Lib.cell_of_heap hh0]; rfl
  have c0_2 : w1.cell? ⟨w.heap.size, 2, none⟩ = some (.string tx1) := by rw [Lib.cell_of_heap hh0]; rfl
  have c0_3 : w1.cell? ⟨w.heap.size, 3, none⟩ = some (.int .i64 n1) := by rw [Lib.cell_of_heap hh0]; rfl
  have c0_4 : w1.cell? ⟨w.heap.size, 4, none⟩ = some (.int .i64 m1) := by rw [Lib.cell_of_heap hh0]; rfl
  clear hh0
  have HH1_1 := Lib.hid hh1
  have lt1 := heap_lt hh1
  have c1_0 : w1.cell? ⟨w.heap.size + 1, 0, none⟩ = some (.int .u8 k2) := by rw [Lib.cell_of_heap hh1]; rfl
  have c1_1 : w1.cell? ⟨w.heap.size + 1, 1, none⟩ = some (.string nm2) := by rw [Lib.cell_of_heap hh1]; rfl
  have c1_2 : w1.cell? ⟨w.heap.size + 1, 2, none⟩ = some (.string tx2) := by rw [Lib.cell_of_heap hh1]; rfl
  have c1_3 : w1.cell? ⟨w.heap.size + 1, 3, none⟩ = some (.int .i64 n2) := by rw [Lib.cell_of_heap hh1]; rfl
  have c1_4 : w1.cell? ⟨w.heap.size + 1, 4, none⟩ = some (.int .i64 m2) := by rw [Lib.cell_of_heap hh1]; rfl
  clear hh1
  have sz1 := hbw1.size
  have HW1 := Lib.hid hbw1
  go_wp2_with fail
  go_ret
  exact ⟨rfl, by first | exact HW1.out | (go_grown; done)⟩
set_option maxRecDepth 100000 in
set_option maxHeartbeats 4000000 in
theorem none_yes (k : Int) (k1 : Int) (nm1 tx1 : ByteArray) (n1 m1 : Int) (w : World) (HR : Hid (DoesU w 8 #[.int .u8 k, .agg #[.int .u8 k1, .string nm1, .string tx1, .int .i64 n1, .int .i64 m1]] (.tuple #[.agg #[.int .u8 0, .string ⟨#[]⟩, .string ⟨#[]⟩, .int .i64 0, .int .i64 0], .int .i64 160]))) :
    Calls Tryz.prog 14 #[.int .u8 k, .agg #[.int .u8 k1, .string nm1, .string tx1, .int .i64 n1, .int .i64 m1]] w fun e w' => e = .returned (.bool true) ∧ Below w.heap.size w w' := by
  go_enter Tryz.func14, Tryz.ntmps14
  go_wp2_with fail
  refine (HR.out _ (by first | exact Below.refl _ _ | (go_grown; done))).mono ?_; rintro e w1 ⟨rfl, hb⟩
  have hh0 : w1.heap[w.heap.size]? = some (.cells #[.int .u8 k1, .string nm1, .string tx1, .int .i64 n1, .int .i64 m1] 23 (0, 0)) := (hb.block _ (by first | omega | (simp; done) | (simp; omega))).trans (heap_new _ _ _ (by first | rfl | simp))
  have hbw1 : Below w.heap.size w w1 := (show Below w.heap.size w _ by first | exact Below.refl _ _ | (go_grown; done)).trans (hb.mono (by first | omega | (simp; done) | (simp; omega)))
  clear hb
  have HH0_1 := Lib.hid hh0
  have lt0 := heap_lt hh0
  have c0_0 : w1.cell? ⟨w.heap.size, 0, none⟩ = some (.int .u8 k1) := by rw [Lib.cell_of_heap hh0]; rfl
  have c0_1 : w1.cell? ⟨w.heap.size, 1, none⟩ = some (.string nm1) := by rw [Lib.cell_of_heap hh0]; rfl
  have c0_2 : w1.cell? ⟨w.heap.size, 2, none⟩ = some (.string tx1) := by rw [Lib.cell_of_heap hh0]; rfl
  have c0_3 : w1.cell? ⟨w.heap.size, 3, none⟩ = some (.int .i64 n1) := by rw [Lib.cell_of_heap hh0]; rfl
  have c0_4 : w1.cell? ⟨w.heap.size, 4, none⟩ = some (.int .i64 m1) := by rw [Lib.cell_of_heap hh0]; rfl
  clear hh0
  have sz1 := hbw1.size
  have HW1 := Lib.hid hbw1
  go_wp2_with fail
  go_ret
  exact ⟨rfl, by first | exact HW1.out | (go_grown; done)⟩
end Go.Proofs.YtjhgiojmlkeccaaGreatDoor
namespace Go.Proofs.YtjhgiojmlkeccaaGreatDoor
open Go.RowKit Go.Shelf
theorem keepL {w W W' : World} (hb : Below W.heap.size W W') (h : (fun W => Below w.heap.size w W ∧ EnvS W) W) : (fun W => Below w.heap.size w W ∧ EnvS W) W' := ⟨h.1.trans (hb.mono h.1.size), h.2.below hb⟩
set_option maxRecDepth 100000 in
set_option maxHeartbeats 4000000 in
theorem lalive16 (w : World) (hE : EnvS w) :
    Calls Tryz.prog 6 #[] w fun e w' => e = .returned (.bool true) ∧ Below w.heap.size w w' := by
  go_enter Tryz.func6, Tryz.ntmps6
  go_wp2_with fail
  have hHeld : (fun W => Below w.heap.size w W ∧ EnvS W) w := ⟨Below.refl _ _, hE⟩
  skip
  refine ((ltext_d ⟨#[49, 46, 53, 48]⟩ w) _ hHeld.1).mono ?_; rintro e wc0 ⟨rfl, hb⟩
  go_wp2_with fail
  have hHeld : (fun W => Below w.heap.size w W ∧ EnvS W) wc0 := keepL hb hHeld
  clear hb
  refine ((ltext_d ⟨#[49, 46, 53]⟩ w) _ hHeld.1).mono ?_; rintro e wc1 ⟨rfl, hb⟩
  go_wp2_with fail
  have hHeld : (fun W => Below w.heap.size w W ∧ EnvS W) wc1 := keepL hb hHeld
  clear hb
  refine (reads_yes 7 3 ⟨#[]⟩ ⟨#[49, 46, 53, 48]⟩ 0 0 3 ⟨#[]⟩ ⟨#[49, 46, 53]⟩ 0 0 _ (Lib.hid (r_150 _ hHeld.2))).mono ?_; rintro e wc2 ⟨rfl, hb⟩
  go_wp2_with fail
  have hHeld : (fun W => Below w.heap.size w W ∧ EnvS W) wc2 := keepL hb hHeld
  clear hb
  refine ((lnumber_d 3 w) _ hHeld.1).mono ?_; rintro e wc3 ⟨rfl, hb⟩
  go_wp2_with fail
  have hHeld : (fun W => Below w.heap.size w W ∧ EnvS W) wc3 := keepL hb hHeld
  clear hb
  refine ((ltext_d ⟨#[51]⟩ w) _ hHeld.1).mono ?_; rintro e wc4 ⟨rfl, hb⟩
  go_wp2_with fail
  have hHeld : (fun W => Below w.heap.size w W ∧ EnvS W) wc4 := keepL hb hHeld
  clear hb
  refine (reads_yes 7 2 ⟨#[]⟩ ⟨#[]⟩ 3 0 3 ⟨#[]⟩ ⟨#[51]⟩ 0 0 _ (Lib.hid (r_3 _ hHeld.2))).mono ?_; rintro e wc5 ⟨rfl, hb⟩
  go_wp2_with fail
  have hHeld : (fun W => Below w.heap.size w W ∧ EnvS W) wc5 := keepL hb hHeld
  clear hb
  refine ((lnumber_d 7 w) _ hHeld.1).mono ?_; rintro e wc6 ⟨rfl, hb⟩
  go_wp2_with fail
  have hHeld : (fun W => Below w.heap.size w W ∧ EnvS W) wc6 := keepL hb hHeld
  clear hb
  refine ((ltext_d ⟨#[55]⟩ w) _ hHeld.1).mono ?_; rintro e wc7 ⟨rfl, hb⟩
  go_wp2_with fail
  have hHeld : (fun W => Below w.heap.size w W ∧ EnvS W) wc7 := keepL hb hHeld
  clear hb
  refine (reads_yes 4 2 ⟨#[]⟩ ⟨#[]⟩ 7 0 3 ⟨#[]⟩ ⟨#[55]⟩ 0 0 _ (Lib.hid (r_7 _ hHeld.2))).mono ?_; rintro e wc8 ⟨rfl, hb⟩
  go_wp2_with fail
  have hHeld : (fun W => Below w.heap.size w W ∧ EnvS W) wc8 := keepL hb hHeld
  clear hb
  refine ((lnumber_d 2147483648 w) _ hHeld.1).mono ?_; rintro e wc9 ⟨rfl, hb⟩
  go_wp2_with fail
  have hHeld : (fun W => Below w.heap.size w W ∧ EnvS W) wc9 := keepL hb hHeld
  clear hb
  refine (none_yes 1 2 ⟨#[]⟩ ⟨#[]⟩ 2147483648 0 _ (Lib.hid (r_big _ hHeld.2))).mono ?_; rintro e wc10 ⟨rfl, hb⟩
  go_wp2_with fail
  go_ret
  exact ⟨rfl, hHeld.1.trans (hb.mono hHeld.1.size)⟩
end Go.Proofs.YtjhgiojmlkeccaaGreatDoor
