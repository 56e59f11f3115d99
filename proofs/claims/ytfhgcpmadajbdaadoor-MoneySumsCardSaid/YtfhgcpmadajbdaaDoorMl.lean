/- The walk through the law on the order of Decimals (provostlaw14.MoneyOrder). -/
import Derived.Test.YtfhgcpmadajbdaaDoorMk
import Derived.Test.YtfhgcpmadajbdaaDoorMh
set_option linter.unusedSimpArgs false
set_option linter.unusedVariables false
namespace Go.Proofs.YtfhgcpmadajbdaaDoor
open Go.RowKit
/-- Three blocks of the call's own, behind a call that only makes blocks. -/
theorem keep3 {w W w1 : World} {x y x' y' z z' : Value} (hb : Below W.heap.size W w1) (h : W.cell? ⟨w.heap.size, 0, none⟩ = some x ∧ W.cell? ⟨w.heap.size, 1, none⟩ = some y ∧ W.cell? ⟨w.heap.size + 1, 0, none⟩ = some x' ∧ W.cell? ⟨w.heap.size + 1, 1, none⟩ = some y' ∧ W.cell? ⟨w.heap.size + 1 + 1, 0, none⟩ = some z ∧ W.cell? ⟨w.heap.size + 1 + 1, 1, none⟩ = some z' ∧ w.heap.size + 1 + 1 < W.heap.size ∧ Below w.heap.size w W) :
    w1.cell? ⟨w.heap.size, 0, none⟩ = some x ∧ w1.cell? ⟨w.heap.size, 1, none⟩ = some y ∧ w1.cell? ⟨w.heap.size + 1, 0, none⟩ = some x' ∧ w1.cell? ⟨w.heap.size + 1, 1, none⟩ = some y' ∧ w1.cell? ⟨w.heap.size + 1 + 1, 0, none⟩ = some z ∧ w1.cell? ⟨w.heap.size + 1 + 1, 1, none⟩ = some z' ∧ w.heap.size + 1 + 1 < w1.heap.size ∧ Below w.heap.size w w1 := by
  obtain ⟨h0, h1, h2, h3, h4, h5, h6, h7⟩ := h
  obtain ⟨cc, ff⟩ := bcell hb
  exact ⟨(cc _ _ (by omega)).trans h0, (cc _ _ (by omega)).trans h1, (cc _ _ (by omega)).trans h2, (cc _ _ (by omega)).trans h3, (cc _ _ (by omega)).trans h4, (cc _ _ (by omega)).trans h5, Nat.lt_of_lt_of_le h6 hb.size, h7.trans (hb.mono h7.size)⟩
theorem keep3_new {w w1 : World} {x y x' y' z z' : Value} {t : TypeId} (hb : Below (((w.alloc (.cells #[x, y] t)).alloc (.cells #[x', y'] t)).alloc (.cells #[z, z'] t)).heap.size (((w.alloc (.cells #[x, y] t)).alloc (.cells #[x', y'] t)).alloc (.cells #[z, z'] t)) w1) :
    w1.cell? ⟨w.heap.size, 0, none⟩ = some x ∧ w1.cell? ⟨w.heap.size, 1, none⟩ = some y ∧ w1.cell? ⟨w.heap.size + 1, 0, none⟩ = some x' ∧ w1.cell? ⟨w.heap.size + 1, 1, none⟩ = some y' ∧ w1.cell? ⟨w.heap.size + 1 + 1, 0, none⟩ = some z ∧ w1.cell? ⟨w.heap.size + 1 + 1, 1, none⟩ = some z' ∧ w.heap.size + 1 + 1 < w1.heap.size ∧ Below w.heap.size w w1 := by
  refine keep3 hb ⟨by simp [go_sem], by simp [go_sem], by simp [go_sem], by simp [go_sem], by simp [go_sem], by simp [go_sem], by simp, ?_⟩
  go_grown
theorem money_eql (a b c d : Int) (w : World) : (binOp .eql 23 (.agg #[.int .i64 a, .int .i64 b]) (.agg #[.int .i64 c, .int .i64 d])).run Tryd.prog w = .ok (.bool (a == c && b == d)) w := by
  simp [go_sem]
  by_cases h : a = c <;> by_cases h2 : b = d <;> simp [h, h2]
theorem cmpE_comm (m s n t : Int) : cmpE n t m s = cmpE m s n t := by unfold cmpE; rw [Bool.and_comm]
theorem cmpV_comm (m s n t : Int) : cmpV n t m s = -cmpV m s n t := by
  unfold cmpV; rw [Bool.and_comm]; split
  · exact cmpI_neg _ _
  · rfl
set_option maxRecDepth 100000 in
set_option maxHeartbeats 2000000 in
theorem order_bad (m s n t p q : Int) (w : World) (he : Env w) (ab ba eab bc ebc ac eac : Int)
    (H1 : Hid (∀ w, Calls Tryd.prog 13 #[.agg #[.int .i64 m, .int .i64 s], .agg #[.int .i64 n, .int .i64 t]] w fun e w' => e = .returned (.tuple #[.int .i64 ab, .int .i64 eab]) ∧ Below w.heap.size w w'))
    (H2 : Hid (∀ w, Calls Tryd.prog 13 #[.agg #[.int .i64 n, .int .i64 t], .agg #[.int .i64 m, .int .i64 s]] w fun e w' => e = .returned (.tuple #[.int .i64 ba, .int .i64 eab]) ∧ Below w.heap.size w w'))
    (H3 : Hid (∀ w, Calls Tryd.prog 13 #[.agg #[.int .i64 n, .int .i64 t], .agg #[.int .i64 p, .int .i64 q]] w fun e w' => e = .returned (.tuple #[.int .i64 bc, .int .i64 ebc]) ∧ Below w.heap.size w w'))
    (H4 : Hid (∀ w, Calls Tryd.prog 13 #[.agg #[.int .i64 m, .int .i64 s], .agg #[.int .i64 p, .int .i64 q]] w fun e w' => e = .returned (.tuple #[.int .i64 ac, .int .i64 eac]) ∧ Below w.heap.size w w'))
    (h1 : eab = 140) (h2 : ab = 0) (h3 : ba = 0) :
    Calls Tryd.prog 5 #[.agg #[.int .i64 m, .int .i64 s], .agg #[.int .i64 n, .int .i64 t], .agg #[.int .i64 p, .int .i64 q]] w fun e w' => e = .returned (.bool true) ∧ Below w.heap.size w w' := by
  have HA := Lib.hid (fun w he => alive_true w he)
  subst h1; subst h2; subst h3
  go_enter Tryd.func5, Tryd.ntmps5
  go_wp2_with fail
  refine ((HA.out _ (he.stays (by go_grown))).mono ?_); rintro e w1 ⟨rfl, hb1⟩
  obtain ⟨k1, k2, k3, k4, k5, k6, k7, k8⟩ := keep3_new hb1
  clear hb1
  go_wp2_with fail
  refine (H1.out _).mono ?_; rintro e w2 ⟨rfl, hb2⟩
  have hk := keep3 hb2 ⟨k1, k2, k3, k4, k5, k6, k7, k8⟩
  clear k1 k2 k3 k4 k5 k6 k7 k8 hb2
  obtain ⟨k1, k2, k3, k4, k5, k6, k7, k8⟩ := hk
  go_wp2_with fail
  refine (H2.out _).mono ?_; rintro e w3 ⟨rfl, hb3⟩
  have hk := keep3 hb3 ⟨k1, k2, k3, k4, k5, k6, k7, k8⟩
  clear k1 k2 k3 k4 k5 k6 k7 k8 hb3
  obtain ⟨k1, k2, k3, k4, k5, k6, k7, k8⟩ := hk
  go_wp2_with fail
  refine (H3.out _).mono ?_; rintro e w4 ⟨rfl, hb4⟩
  have hk := keep3 hb4 ⟨k1, k2, k3, k4, k5, k6, k7, k8⟩
  clear k1 k2 k3 k4 k5 k6 k7 k8 hb4
  obtain ⟨k1, k2, k3, k4, k5, k6, k7, k8⟩ := hk
  go_wp2_with fail
  refine (H4.out _).mono ?_; rintro e w5 ⟨rfl, hb5⟩
  have hk := keep3 hb5 ⟨k1, k2, k3, k4, k5, k6, k7, k8⟩
  clear k1 k2 k3 k4 k5 k6 k7 k8 hb5
  obtain ⟨k1, k2, k3, k4, k5, k6, k7, k8⟩ := hk
  go_wp2_with fail
  go_ret
  exact ⟨rfl, k8⟩
set_option maxRecDepth 100000 in
set_option maxHeartbeats 2000000 in
theorem order_ex (m s n t p q : Int) (w : World) (he : Env w) (ab ba eab bc ebc ac eac : Int)
    (H1 : Hid (∀ w, Calls Tryd.prog 13 #[.agg #[.int .i64 m, .int .i64 s], .agg #[.int .i64 n, .int .i64 t]] w fun e w' => e = .returned (.tuple #[.int .i64 ab, .int .i64 eab]) ∧ Below w.heap.size w w'))
    (H2 : Hid (∀ w, Calls Tryd.prog 13 #[.agg #[.int .i64 n, .int .i64 t], .agg #[.int .i64 m, .int .i64 s]] w fun e w' => e = .returned (.tuple #[.int .i64 ba, .int .i64 eab]) ∧ Below w.heap.size w w'))
    (H3 : Hid (∀ w, Calls Tryd.prog 13 #[.agg #[.int .i64 n, .int .i64 t], .agg #[.int .i64 p, .int .i64 q]] w fun e w' => e = .returned (.tuple #[.int .i64 bc, .int .i64 ebc]) ∧ Below w.heap.size w w'))
    (H4 : Hid (∀ w, Calls Tryd.prog 13 #[.agg #[.int .i64 m, .int .i64 s], .agg #[.int .i64 p, .int .i64 q]] w fun e w' => e = .returned (.tuple #[.int .i64 ac, .int .i64 eac]) ∧ Below w.heap.size w w'))
    (h1 : eab = 0) (h2 : ab = 0) (h3 : ba = 0) (hq : ∀ w, (binOp .eql 23 (.agg #[.int .i64 m, .int .i64 s]) (.agg #[.int .i64 n, .int .i64 t])).run Tryd.prog w = .ok (.bool true) w) (h4 : ebc = 140) :
    Calls Tryd.prog 5 #[.agg #[.int .i64 m, .int .i64 s], .agg #[.int .i64 n, .int .i64 t], .agg #[.int .i64 p, .int .i64 q]] w fun e w' => e = .returned (.bool true) ∧ Below w.heap.size w w' := by
  have HA := Lib.hid (fun w he => alive_true w he)
  subst h1; subst h2; subst h3; subst h4
  go_enter Tryd.func5, Tryd.ntmps5
  go_wp2_with fail
  refine ((HA.out _ (he.stays (by go_grown))).mono ?_); rintro e w1 ⟨rfl, hb1⟩
  obtain ⟨k1, k2, k3, k4, k5, k6, k7, k8⟩ := keep3_new hb1
  clear hb1
  go_wp2_with fail
  refine (H1.out _).mono ?_; rintro e w2 ⟨rfl, hb2⟩
  have hk := keep3 hb2 ⟨k1, k2, k3, k4, k5, k6, k7, k8⟩
  clear k1 k2 k3 k4 k5 k6 k7 k8 hb2
  obtain ⟨k1, k2, k3, k4, k5, k6, k7, k8⟩ := hk
  go_wp2_with fail
  refine (H2.out _).mono ?_; rintro e w3 ⟨rfl, hb3⟩
  have hk := keep3 hb3 ⟨k1, k2, k3, k4, k5, k6, k7, k8⟩
  clear k1 k2 k3 k4 k5 k6 k7 k8 hb3
  obtain ⟨k1, k2, k3, k4, k5, k6, k7, k8⟩ := hk
  go_wp2_with fail
  refine (H3.out _).mono ?_; rintro e w4 ⟨rfl, hb4⟩
  have hk := keep3 hb4 ⟨k1, k2, k3, k4, k5, k6, k7, k8⟩
  clear k1 k2 k3 k4 k5 k6 k7 k8 hb4
  obtain ⟨k1, k2, k3, k4, k5, k6, k7, k8⟩ := hk
  go_wp2_with fail
  refine (H4.out _).mono ?_; rintro e w5 ⟨rfl, hb5⟩
  have hk := keep3 hb5 ⟨k1, k2, k3, k4, k5, k6, k7, k8⟩
  clear k1 k2 k3 k4 k5 k6 k7 k8 hb5
  obtain ⟨k1, k2, k3, k4, k5, k6, k7, k8⟩ := hk
  go_wp2_with fail
  go_ret
  exact ⟨rfl, k8⟩
set_option maxRecDepth 100000 in
set_option maxHeartbeats 2000000 in
theorem order_ep (m s n t p q : Int) (w : World) (he : Env w) (ab ba eab bc ebc ac eac : Int)
    (H1 : Hid (∀ w, Calls Tryd.prog 13 #[.agg #[.int .i64 m, .int .i64 s], .agg #[.int .i64 n, .int .i64 t]] w fun e w' => e = .returned (.tuple #[.int .i64 ab, .int .i64 eab]) ∧ Below w.heap.size w w'))
    (H2 : Hid (∀ w, Calls Tryd.prog 13 #[.agg #[.int .i64 n, .int .i64 t], .agg #[.int .i64 m, .int .i64 s]] w fun e w' => e = .returned (.tuple #[.int .i64 ba, .int .i64 eab]) ∧ Below w.heap.size w w'))
    (H3 : Hid (∀ w, Calls Tryd.prog 13 #[.agg #[.int .i64 n, .int .i64 t], .agg #[.int .i64 p, .int .i64 q]] w fun e w' => e = .returned (.tuple #[.int .i64 bc, .int .i64 ebc]) ∧ Below w.heap.size w w'))
    (H4 : Hid (∀ w, Calls Tryd.prog 13 #[.agg #[.int .i64 m, .int .i64 s], .agg #[.int .i64 p, .int .i64 q]] w fun e w' => e = .returned (.tuple #[.int .i64 ac, .int .i64 eac]) ∧ Below w.heap.size w w'))
    (h1 : eab = 0) (h2 : ab = 0) (h3 : ba = 0) (hq : ∀ w, (binOp .eql 23 (.agg #[.int .i64 m, .int .i64 s]) (.agg #[.int .i64 n, .int .i64 t])).run Tryd.prog w = .ok (.bool true) w) (h4 : ebc = 0) (h5 : eac = 0) (h6 : bc = 1) :
    Calls Tryd.prog 5 #[.agg #[.int .i64 m, .int .i64 s], .agg #[.int .i64 n, .int .i64 t], .agg #[.int .i64 p, .int .i64 q]] w fun e w' => e = .returned (.bool true) ∧ Below w.heap.size w w' := by
  have HA := Lib.hid (fun w he => alive_true w he)
  subst h1; subst h2; subst h3; subst h4; subst h5; subst h6
  go_enter Tryd.func5, Tryd.ntmps5
  go_wp2_with fail
  refine ((HA.out _ (he.stays (by go_grown))).mono ?_); rintro e w1 ⟨rfl, hb1⟩
  obtain ⟨k1, k2, k3, k4, k5, k6, k7, k8⟩ := keep3_new hb1
  clear hb1
  go_wp2_with fail
  refine (H1.out _).mono ?_; rintro e w2 ⟨rfl, hb2⟩
  have hk := keep3 hb2 ⟨k1, k2, k3, k4, k5, k6, k7, k8⟩
  clear k1 k2 k3 k4 k5 k6 k7 k8 hb2
  obtain ⟨k1, k2, k3, k4, k5, k6, k7, k8⟩ := hk
  go_wp2_with fail
  refine (H2.out _).mono ?_; rintro e w3 ⟨rfl, hb3⟩
  have hk := keep3 hb3 ⟨k1, k2, k3, k4, k5, k6, k7, k8⟩
  clear k1 k2 k3 k4 k5 k6 k7 k8 hb3
  obtain ⟨k1, k2, k3, k4, k5, k6, k7, k8⟩ := hk
  go_wp2_with fail
  refine (H3.out _).mono ?_; rintro e w4 ⟨rfl, hb4⟩
  have hk := keep3 hb4 ⟨k1, k2, k3, k4, k5, k6, k7, k8⟩
  clear k1 k2 k3 k4 k5 k6 k7 k8 hb4
  obtain ⟨k1, k2, k3, k4, k5, k6, k7, k8⟩ := hk
  go_wp2_with fail
  refine (H4.out _).mono ?_; rintro e w5 ⟨rfl, hb5⟩
  have hk := keep3 hb5 ⟨k1, k2, k3, k4, k5, k6, k7, k8⟩
  clear k1 k2 k3 k4 k5 k6 k7 k8 hb5
  obtain ⟨k1, k2, k3, k4, k5, k6, k7, k8⟩ := hk
  go_wp2_with fail
  go_ret
  exact ⟨rfl, k8⟩
set_option maxRecDepth 100000 in
set_option maxHeartbeats 2000000 in
theorem order_ez (m s n t p q : Int) (w : World) (he : Env w) (ab ba eab bc ebc ac eac : Int)
    (H1 : Hid (∀ w, Calls Tryd.prog 13 #[.agg #[.int .i64 m, .int .i64 s], .agg #[.int .i64 n, .int .i64 t]] w fun e w' => e = .returned (.tuple #[.int .i64 ab, .int .i64 eab]) ∧ Below w.heap.size w w'))
    (H2 : Hid (∀ w, Calls Tryd.prog 13 #[.agg #[.int .i64 n, .int .i64 t], .agg #[.int .i64 m, .int .i64 s]] w fun e w' => e = .returned (.tuple #[.int .i64 ba, .int .i64 eab]) ∧ Below w.heap.size w w'))
    (H3 : Hid (∀ w, Calls Tryd.prog 13 #[.agg #[.int .i64 n, .int .i64 t], .agg #[.int .i64 p, .int .i64 q]] w fun e w' => e = .returned (.tuple #[.int .i64 bc, .int .i64 ebc]) ∧ Below w.heap.size w w'))
    (H4 : Hid (∀ w, Calls Tryd.prog 13 #[.agg #[.int .i64 m, .int .i64 s], .agg #[.int .i64 p, .int .i64 q]] w fun e w' => e = .returned (.tuple #[.int .i64 ac, .int .i64 eac]) ∧ Below w.heap.size w w'))
    (h1 : eab = 0) (h2 : ab = 0) (h3 : ba = 0) (hq : ∀ w, (binOp .eql 23 (.agg #[.int .i64 m, .int .i64 s]) (.agg #[.int .i64 n, .int .i64 t])).run Tryd.prog w = .ok (.bool true) w) (h4 : ebc = 0) (h5 : eac = 0) (h6 : bc = 0) (h7 : ac = 0) :
    Calls Tryd.prog 5 #[.agg #[.int .i64 m, .int .i64 s], .agg #[.int .i64 n, .int .i64 t], .agg #[.int .i64 p, .int .i64 q]] w fun e w' => e = .returned (.bool true) ∧ Below w.heap.size w w' := by
  have HA := Lib.hid (fun w he => alive_true w he)
  subst h1; subst h2; subst h3; subst h4; subst h5; subst h6; subst h7
  go_enter Tryd.func5, Tryd.ntmps5
  go_wp2_with fail
  refine ((HA.out _ (he.stays (by go_grown))).mono ?_); rintro e w1 ⟨rfl, hb1⟩
  obtain ⟨k1, k2, k3, k4, k5, k6, k7, k8⟩ := keep3_new hb1
  clear hb1
  go_wp2_with fail
  refine (H1.out _).mono ?_; rintro e w2 ⟨rfl, hb2⟩
  have hk := keep3 hb2 ⟨k1, k2, k3, k4, k5, k6, k7, k8⟩
  clear k1 k2 k3 k4 k5 k6 k7 k8 hb2
  obtain ⟨k1, k2, k3, k4, k5, k6, k7, k8⟩ := hk
  go_wp2_with fail
  refine (H2.out _).mono ?_; rintro e w3 ⟨rfl, hb3⟩
  have hk := keep3 hb3 ⟨k1, k2, k3, k4, k5, k6, k7, k8⟩
  clear k1 k2 k3 k4 k5 k6 k7 k8 hb3
  obtain ⟨k1, k2, k3, k4, k5, k6, k7, k8⟩ := hk
  go_wp2_with fail
  refine (H3.out _).mono ?_; rintro e w4 ⟨rfl, hb4⟩
  have hk := keep3 hb4 ⟨k1, k2, k3, k4, k5, k6, k7, k8⟩
  clear k1 k2 k3 k4 k5 k6 k7 k8 hb4
  obtain ⟨k1, k2, k3, k4, k5, k6, k7, k8⟩ := hk
  go_wp2_with fail
  refine (H4.out _).mono ?_; rintro e w5 ⟨rfl, hb5⟩
  have hk := keep3 hb5 ⟨k1, k2, k3, k4, k5, k6, k7, k8⟩
  clear k1 k2 k3 k4 k5 k6 k7 k8 hb5
  obtain ⟨k1, k2, k3, k4, k5, k6, k7, k8⟩ := hk
  go_wp2_with fail
  go_ret
  exact ⟨rfl, k8⟩
set_option maxRecDepth 100000 in
set_option maxHeartbeats 2000000 in
theorem order_en (m s n t p q : Int) (w : World) (he : Env w) (ab ba eab bc ebc ac eac : Int)
    (H1 : Hid (∀ w, Calls Tryd.prog 13 #[.agg #[.int .i64 m, .int .i64 s], .agg #[.int .i64 n, .int .i64 t]] w fun e w' => e = .returned (.tuple #[.int .i64 ab, .int .i64 eab]) ∧ Below w.heap.size w w'))
    (H2 : Hid (∀ w, Calls Tryd.prog 13 #[.agg #[.int .i64 n, .int .i64 t], .agg #[.int .i64 m, .int .i64 s]] w fun e w' => e = .returned (.tuple #[.int .i64 ba, .int .i64 eab]) ∧ Below w.heap.size w w'))
    (H3 : Hid (∀ w, Calls Tryd.prog 13 #[.agg #[.int .i64 n, .int .i64 t], .agg #[.int .i64 p, .int .i64 q]] w fun e w' => e = .returned (.tuple #[.int .i64 bc, .int .i64 ebc]) ∧ Below w.heap.size w w'))
    (H4 : Hid (∀ w, Calls Tryd.prog 13 #[.agg #[.int .i64 m, .int .i64 s], .agg #[.int .i64 p, .int .i64 q]] w fun e w' => e = .returned (.tuple #[.int .i64 ac, .int .i64 eac]) ∧ Below w.heap.size w w'))
    (h1 : eab = 0) (h2 : ab = 0) (h3 : ba = 0) (hq : ∀ w, (binOp .eql 23 (.agg #[.int .i64 m, .int .i64 s]) (.agg #[.int .i64 n, .int .i64 t])).run Tryd.prog w = .ok (.bool true) w) (h4 : ebc = 0) (h5 : eac = 0) (h6 : bc = -1) (h7 : ac = -1) :
    Calls Tryd.prog 5 #[.agg #[.int .i64 m, .int .i64 s], .agg #[.int .i64 n, .int .i64 t], .agg #[.int .i64 p, .int .i64 q]] w fun e w' => e = .returned (.bool true) ∧ Below w.heap.size w w' := by
  have HA := Lib.hid (fun w he => alive_true w he)
  subst h1; subst h2; subst h3; subst h4; subst h5; subst h6; subst h7
  go_enter Tryd.func5, Tryd.ntmps5
  go_wp2_with fail
  refine ((HA.out _ (he.stays (by go_grown))).mono ?_); rintro e w1 ⟨rfl, hb1⟩
  obtain ⟨k1, k2, k3, k4, k5, k6, k7, k8⟩ := keep3_new hb1
  clear hb1
  go_wp2_with fail
  refine (H1.out _).mono ?_; rintro e w2 ⟨rfl, hb2⟩
  have hk := keep3 hb2 ⟨k1, k2, k3, k4, k5, k6, k7, k8⟩
  clear k1 k2 k3 k4 k5 k6 k7 k8 hb2
  obtain ⟨k1, k2, k3, k4, k5, k6, k7, k8⟩ := hk
  go_wp2_with fail
  refine (H2.out _).mono ?_; rintro e w3 ⟨rfl, hb3⟩
  have hk := keep3 hb3 ⟨k1, k2, k3, k4, k5, k6, k7, k8⟩
  clear k1 k2 k3 k4 k5 k6 k7 k8 hb3
  obtain ⟨k1, k2, k3, k4, k5, k6, k7, k8⟩ := hk
  go_wp2_with fail
  refine (H3.out _).mono ?_; rintro e w4 ⟨rfl, hb4⟩
  have hk := keep3 hb4 ⟨k1, k2, k3, k4, k5, k6, k7, k8⟩
  clear k1 k2 k3 k4 k5 k6 k7 k8 hb4
  obtain ⟨k1, k2, k3, k4, k5, k6, k7, k8⟩ := hk
  go_wp2_with fail
  refine (H4.out _).mono ?_; rintro e w5 ⟨rfl, hb5⟩
  have hk := keep3 hb5 ⟨k1, k2, k3, k4, k5, k6, k7, k8⟩
  clear k1 k2 k3 k4 k5 k6 k7 k8 hb5
  obtain ⟨k1, k2, k3, k4, k5, k6, k7, k8⟩ := hk
  go_wp2_with fail
  go_ret
  exact ⟨rfl, k8⟩
set_option maxRecDepth 100000 in
set_option maxHeartbeats 2000000 in
theorem order_lx (m s n t p q : Int) (w : World) (he : Env w) (ab ba eab bc ebc ac eac : Int)
    (H1 : Hid (∀ w, Calls Tryd.prog 13 #[.agg #[.int .i64 m, .int .i64 s], .agg #[.int .i64 n, .int .i64 t]] w fun e w' => e = .returned (.tuple #[.int .i64 ab, .int .i64 eab]) ∧ Below w.heap.size w w'))
    (H2 : Hid (∀ w, Calls Tryd.prog 13 #[.agg #[.int .i64 n, .int .i64 t], .agg #[.int .i64 m, .int .i64 s]] w fun e w' => e = .returned (.tuple #[.int .i64 ba, .int .i64 eab]) ∧ Below w.heap.size w w'))
    (H3 : Hid (∀ w, Calls Tryd.prog 13 #[.agg #[.int .i64 n, .int .i64 t], .agg #[.int .i64 p, .int .i64 q]] w fun e w' => e = .returned (.tuple #[.int .i64 bc, .int .i64 ebc]) ∧ Below w.heap.size w w'))
    (H4 : Hid (∀ w, Calls Tryd.prog 13 #[.agg #[.int .i64 m, .int .i64 s], .agg #[.int .i64 p, .int .i64 q]] w fun e w' => e = .returned (.tuple #[.int .i64 ac, .int .i64 eac]) ∧ Below w.heap.size w w'))
    (h1 : eab = 0) (h2 : ab = -1) (h3 : ba = 1) (hq : ∀ w, (binOp .eql 23 (.agg #[.int .i64 m, .int .i64 s]) (.agg #[.int .i64 n, .int .i64 t])).run Tryd.prog w = .ok (.bool false) w) (h4 : ebc = 140) :
    Calls Tryd.prog 5 #[.agg #[.int .i64 m, .int .i64 s], .agg #[.int .i64 n, .int .i64 t], .agg #[.int .i64 p, .int .i64 q]] w fun e w' => e = .returned (.bool true) ∧ Below w.heap.size w w' := by
  have HA := Lib.hid (fun w he => alive_true w he)
  subst h1; subst h2; subst h3; subst h4
  go_enter Tryd.func5, Tryd.ntmps5
  go_wp2_with fail
  refine ((HA.out _ (he.stays (by go_grown))).mono ?_); rintro e w1 ⟨rfl, hb1⟩
  obtain ⟨k1, k2, k3, k4, k5, k6, k7, k8⟩ := keep3_new hb1
  clear hb1
  go_wp2_with fail
  refine (H1.out _).mono ?_; rintro e w2 ⟨rfl, hb2⟩
  have hk := keep3 hb2 ⟨k1, k2, k3, k4, k5, k6, k7, k8⟩
  clear k1 k2 k3 k4 k5 k6 k7 k8 hb2
  obtain ⟨k1, k2, k3, k4, k5, k6, k7, k8⟩ := hk
  go_wp2_with fail
  refine (H2.out _).mono ?_; rintro e w3 ⟨rfl, hb3⟩
  have hk := keep3 hb3 ⟨k1, k2, k3, k4, k5, k6, k7, k8⟩
  clear k1 k2 k3 k4 k5 k6 k7 k8 hb3
  obtain ⟨k1, k2, k3, k4, k5, k6, k7, k8⟩ := hk
  go_wp2_with fail
  refine (H3.out _).mono ?_; rintro e w4 ⟨rfl, hb4⟩
  have hk := keep3 hb4 ⟨k1, k2, k3, k4, k5, k6, k7, k8⟩
  clear k1 k2 k3 k4 k5 k6 k7 k8 hb4
  obtain ⟨k1, k2, k3, k4, k5, k6, k7, k8⟩ := hk
  go_wp2_with fail
  refine (H4.out _).mono ?_; rintro e w5 ⟨rfl, hb5⟩
  have hk := keep3 hb5 ⟨k1, k2, k3, k4, k5, k6, k7, k8⟩
  clear k1 k2 k3 k4 k5 k6 k7 k8 hb5
  obtain ⟨k1, k2, k3, k4, k5, k6, k7, k8⟩ := hk
  go_wp2_with fail
  go_ret
  exact ⟨rfl, k8⟩
set_option maxRecDepth 100000 in
set_option maxHeartbeats 2000000 in
theorem order_lp (m s n t p q : Int) (w : World) (he : Env w) (ab ba eab bc ebc ac eac : Int)
    (H1 : Hid (∀ w, Calls Tryd.prog 13 #[.agg #[.int .i64 m, .int .i64 s], .agg #[.int .i64 n, .int .i64 t]] w fun e w' => e = .returned (.tuple #[.int .i64 ab, .int .i64 eab]) ∧ Below w.heap.size w w'))
    (H2 : Hid (∀ w, Calls Tryd.prog 13 #[.agg #[.int .i64 n, .int .i64 t], .agg #[.int .i64 m, .int .i64 s]] w fun e w' => e = .returned (.tuple #[.int .i64 ba, .int .i64 eab]) ∧ Below w.heap.size w w'))
    (H3 : Hid (∀ w, Calls Tryd.prog 13 #[.agg #[.int .i64 n, .int .i64 t], .agg #[.int .i64 p, .int .i64 q]] w fun e w' => e = .returned (.tuple #[.int .i64 bc, .int .i64 ebc]) ∧ Below w.heap.size w w'))
    (H4 : Hid (∀ w, Calls Tryd.prog 13 #[.agg #[.int .i64 m, .int .i64 s], .agg #[.int .i64 p, .int .i64 q]] w fun e w' => e = .returned (.tuple #[.int .i64 ac, .int .i64 eac]) ∧ Below w.heap.size w w'))
    (h1 : eab = 0) (h2 : ab = -1) (h3 : ba = 1) (hq : ∀ w, (binOp .eql 23 (.agg #[.int .i64 m, .int .i64 s]) (.agg #[.int .i64 n, .int .i64 t])).run Tryd.prog w = .ok (.bool false) w) (h4 : ebc = 0) (h5 : eac = 0) (h6 : bc = 1) :
    Calls Tryd.prog 5 #[.agg #[.int .i64 m, .int .i64 s], .agg #[.int .i64 n, .int .i64 t], .agg #[.int .i64 p, .int .i64 q]] w fun e w' => e = .returned (.bool true) ∧ Below w.heap.size w w' := by
  have HA := Lib.hid (fun w he => alive_true w he)
  subst h1; subst h2; subst h3; subst h4; subst h5; subst h6
  go_enter Tryd.func5, Tryd.ntmps5
  go_wp2_with fail
  refine ((HA.out _ (he.stays (by go_grown))).mono ?_); rintro e w1 ⟨rfl, hb1⟩
  obtain ⟨k1, k2, k3, k4, k5, k6, k7, k8⟩ := keep3_new hb1
  clear hb1
  go_wp2_with fail
  refine (H1.out _).mono ?_; rintro e w2 ⟨rfl, hb2⟩
  have hk := keep3 hb2 ⟨k1, k2, k3, k4, k5, k6, k7, k8⟩
  clear k1 k2 k3 k4 k5 k6 k7 k8 hb2
  obtain ⟨k1, k2, k3, k4, k5, k6, k7, k8⟩ := hk
  go_wp2_with fail
  refine (H2.out _).mono ?_; rintro e w3 ⟨rfl, hb3⟩
  have hk := keep3 hb3 ⟨k1, k2, k3, k4, k5, k6, k7, k8⟩
  clear k1 k2 k3 k4 k5 k6 k7 k8 hb3
  obtain ⟨k1, k2, k3, k4, k5, k6, k7, k8⟩ := hk
  go_wp2_with fail
  refine (H3.out _).mono ?_; rintro e w4 ⟨rfl, hb4⟩
  have hk := keep3 hb4 ⟨k1, k2, k3, k4, k5, k6, k7, k8⟩
  clear k1 k2 k3 k4 k5 k6 k7 k8 hb4
  obtain ⟨k1, k2, k3, k4, k5, k6, k7, k8⟩ := hk
  go_wp2_with fail
  refine (H4.out _).mono ?_; rintro e w5 ⟨rfl, hb5⟩
  have hk := keep3 hb5 ⟨k1, k2, k3, k4, k5, k6, k7, k8⟩
  clear k1 k2 k3 k4 k5 k6 k7 k8 hb5
  obtain ⟨k1, k2, k3, k4, k5, k6, k7, k8⟩ := hk
  go_wp2_with fail
  go_ret
  exact ⟨rfl, k8⟩
set_option maxRecDepth 100000 in
set_option maxHeartbeats 2000000 in
theorem order_lz (m s n t p q : Int) (w : World) (he : Env w) (ab ba eab bc ebc ac eac : Int)
    (H1 : Hid (∀ w, Calls Tryd.prog 13 #[.agg #[.int .i64 m, .int .i64 s], .agg #[.int .i64 n, .int .i64 t]] w fun e w' => e = .returned (.tuple #[.int .i64 ab, .int .i64 eab]) ∧ Below w.heap.size w w'))
    (H2 : Hid (∀ w, Calls Tryd.prog 13 #[.agg #[.int .i64 n, .int .i64 t], .agg #[.int .i64 m, .int .i64 s]] w fun e w' => e = .returned (.tuple #[.int .i64 ba, .int .i64 eab]) ∧ Below w.heap.size w w'))
    (H3 : Hid (∀ w, Calls Tryd.prog 13 #[.agg #[.int .i64 n, .int .i64 t], .agg #[.int .i64 p, .int .i64 q]] w fun e w' => e = .returned (.tuple #[.int .i64 bc, .int .i64 ebc]) ∧ Below w.heap.size w w'))
    (H4 : Hid (∀ w, Calls Tryd.prog 13 #[.agg #[.int .i64 m, .int .i64 s], .agg #[.int .i64 p, .int .i64 q]] w fun e w' => e = .returned (.tuple #[.int .i64 ac, .int .i64 eac]) ∧ Below w.heap.size w w'))
    (h1 : eab = 0) (h2 : ab = -1) (h3 : ba = 1) (hq : ∀ w, (binOp .eql 23 (.agg #[.int .i64 m, .int .i64 s]) (.agg #[.int .i64 n, .int .i64 t])).run Tryd.prog w = .ok (.bool false) w) (h4 : ebc = 0) (h5 : eac = 0) (h6 : bc = 0) (h7 : ac = -1) :
    Calls Tryd.prog 5 #[.agg #[.int .i64 m, .int .i64 s], .agg #[.int .i64 n, .int .i64 t], .agg #[.int .i64 p, .int .i64 q]] w fun e w' => e = .returned (.bool true) ∧ Below w.heap.size w w' := by
  have HA := Lib.hid (fun w he => alive_true w he)
  subst h1; subst h2; subst h3; subst h4; subst h5; subst h6; subst h7
  go_enter Tryd.func5, Tryd.ntmps5
  go_wp2_with fail
  refine ((HA.out _ (he.stays (by go_grown))).mono ?_); rintro e w1 ⟨rfl, hb1⟩
  obtain ⟨k1, k2, k3, k4, k5, k6, k7, k8⟩ := keep3_new hb1
  clear hb1
  go_wp2_with fail
  refine (H1.out _).mono ?_; rintro e w2 ⟨rfl, hb2⟩
  have hk := keep3 hb2 ⟨k1, k2, k3, k4, k5, k6, k7, k8⟩
  clear k1 k2 k3 k4 k5 k6 k7 k8 hb2
  obtain ⟨k1, k2, k3, k4, k5, k6, k7, k8⟩ := hk
  go_wp2_with fail
  refine (H2.out _).mono ?_; rintro e w3 ⟨rfl, hb3⟩
  have hk := keep3 hb3 ⟨k1, k2, k3, k4, k5, k6, k7, k8⟩
  clear k1 k2 k3 k4 k5 k6 k7 k8 hb3
  obtain ⟨k1, k2, k3, k4, k5, k6, k7, k8⟩ := hk
  go_wp2_with fail
  refine (H3.out _).mono ?_; rintro e w4 ⟨rfl, hb4⟩
  have hk := keep3 hb4 ⟨k1, k2, k3, k4, k5, k6, k7, k8⟩
  clear k1 k2 k3 k4 k5 k6 k7 k8 hb4
  obtain ⟨k1, k2, k3, k4, k5, k6, k7, k8⟩ := hk
  go_wp2_with fail
  refine (H4.out _).mono ?_; rintro e w5 ⟨rfl, hb5⟩
  have hk := keep3 hb5 ⟨k1, k2, k3, k4, k5, k6, k7, k8⟩
  clear k1 k2 k3 k4 k5 k6 k7 k8 hb5
  obtain ⟨k1, k2, k3, k4, k5, k6, k7, k8⟩ := hk
  go_wp2_with fail
  go_ret
  exact ⟨rfl, k8⟩
set_option maxRecDepth 100000 in
set_option maxHeartbeats 2000000 in
theorem order_ln (m s n t p q : Int) (w : World) (he : Env w) (ab ba eab bc ebc ac eac : Int)
    (H1 : Hid (∀ w, Calls Tryd.prog 13 #[.agg #[.int .i64 m, .int .i64 s], .agg #[.int .i64 n, .int .i64 t]] w fun e w' => e = .returned (.tuple #[.int .i64 ab, .int .i64 eab]) ∧ Below w.heap.size w w'))
    (H2 : Hid (∀ w, Calls Tryd.prog 13 #[.agg #[.int .i64 n, .int .i64 t], .agg #[.int .i64 m, .int .i64 s]] w fun e w' => e = .returned (.tuple #[.int .i64 ba, .int .i64 eab]) ∧ Below w.heap.size w w'))
    (H3 : Hid (∀ w, Calls Tryd.prog 13 #[.agg #[.int .i64 n, .int .i64 t], .agg #[.int .i64 p, .int .i64 q]] w fun e w' => e = .returned (.tuple #[.int .i64 bc, .int .i64 ebc]) ∧ Below w.heap.size w w'))
    (H4 : Hid (∀ w, Calls Tryd.prog 13 #[.agg #[.int .i64 m, .int .i64 s], .agg #[.int .i64 p, .int .i64 q]] w fun e w' => e = .returned (.tuple #[.int .i64 ac, .int .i64 eac]) ∧ Below w.heap.size w w'))
    (h1 : eab = 0) (h2 : ab = -1) (h3 : ba = 1) (hq : ∀ w, (binOp .eql 23 (.agg #[.int .i64 m, .int .i64 s]) (.agg #[.int .i64 n, .int .i64 t])).run Tryd.prog w = .ok (.bool false) w) (h4 : ebc = 0) (h5 : eac = 0) (h6 : bc = -1) (h7 : ac = -1) :
    Calls Tryd.prog 5 #[.agg #[.int .i64 m, .int .i64 s], .agg #[.int .i64 n, .int .i64 t], .agg #[.int .i64 p, .int .i64 q]] w fun e w' => e = .returned (.bool true) ∧ Below w.heap.size w w' := by
  have HA := Lib.hid (fun w he => alive_true w he)
  subst h1; subst h2; subst h3; subst h4; subst h5; subst h6; subst h7
  go_enter Tryd.func5, Tryd.ntmps5
  go_wp2_with fail
  refine ((HA.out _ (he.stays (by go_grown))).mono ?_); rintro e w1 ⟨rfl, hb1⟩
  obtain ⟨k1, k2, k3, k4, k5, k6, k7, k8⟩ := keep3_new hb1
  clear hb1
  go_wp2_with fail
  refine (H1.out _).mono ?_; rintro e w2 ⟨rfl, hb2⟩
  have hk := keep3 hb2 ⟨k1, k2, k3, k4, k5, k6, k7, k8⟩
  clear k1 k2 k3 k4 k5 k6 k7 k8 hb2
  obtain ⟨k1, k2, k3, k4, k5, k6, k7, k8⟩ := hk
  go_wp2_with fail
  refine (H2.out _).mono ?_; rintro e w3 ⟨rfl, hb3⟩
  have hk := keep3 hb3 ⟨k1, k2, k3, k4, k5, k6, k7, k8⟩
  clear k1 k2 k3 k4 k5 k6 k7 k8 hb3
  obtain ⟨k1, k2, k3, k4, k5, k6, k7, k8⟩ := hk
  go_wp2_with fail
  refine (H3.out _).mono ?_; rintro e w4 ⟨rfl, hb4⟩
  have hk := keep3 hb4 ⟨k1, k2, k3, k4, k5, k6, k7, k8⟩
  clear k1 k2 k3 k4 k5 k6 k7 k8 hb4
  obtain ⟨k1, k2, k3, k4, k5, k6, k7, k8⟩ := hk
  go_wp2_with fail
  refine (H4.out _).mono ?_; rintro e w5 ⟨rfl, hb5⟩
  have hk := keep3 hb5 ⟨k1, k2, k3, k4, k5, k6, k7, k8⟩
  clear k1 k2 k3 k4 k5 k6 k7 k8 hb5
  obtain ⟨k1, k2, k3, k4, k5, k6, k7, k8⟩ := hk
  go_wp2_with fail
  go_ret
  exact ⟨rfl, k8⟩
set_option maxRecDepth 100000 in
set_option maxHeartbeats 2000000 in
theorem order_gx (m s n t p q : Int) (w : World) (he : Env w) (ab ba eab bc ebc ac eac : Int)
    (H1 : Hid (∀ w, Calls Tryd.prog 13 #[.agg #[.int .i64 m, .int .i64 s], .agg #[.int .i64 n, .int .i64 t]] w fun e w' => e = .returned (.tuple #[.int .i64 ab, .int .i64 eab]) ∧ Below w.heap.size w w'))
    (H2 : Hid (∀ w, Calls Tryd.prog 13 #[.agg #[.int .i64 n, .int .i64 t], .agg #[.int .i64 m, .int .i64 s]] w fun e w' => e = .returned (.tuple #[.int .i64 ba, .int .i64 eab]) ∧ Below w.heap.size w w'))
    (H3 : Hid (∀ w, Calls Tryd.prog 13 #[.agg #[.int .i64 n, .int .i64 t], .agg #[.int .i64 p, .int .i64 q]] w fun e w' => e = .returned (.tuple #[.int .i64 bc, .int .i64 ebc]) ∧ Below w.heap.size w w'))
    (H4 : Hid (∀ w, Calls Tryd.prog 13 #[.agg #[.int .i64 m, .int .i64 s], .agg #[.int .i64 p, .int .i64 q]] w fun e w' => e = .returned (.tuple #[.int .i64 ac, .int .i64 eac]) ∧ Below w.heap.size w w'))
    (h1 : eab = 0) (h2 : ab = 1) (h3 : ba = -1) (hq : ∀ w, (binOp .eql 23 (.agg #[.int .i64 m, .int .i64 s]) (.agg #[.int .i64 n, .int .i64 t])).run Tryd.prog w = .ok (.bool false) w) (h4 : ebc = 140) :
    Calls Tryd.prog 5 #[.agg #[.int .i64 m, .int .i64 s], .agg #[.int .i64 n, .int .i64 t], .agg #[.int .i64 p, .int .i64 q]] w fun e w' => e = .returned (.bool true) ∧ Below w.heap.size w w' := by
  have HA := Lib.hid (fun w he => alive_true w he)
  subst h1; subst h2; subst h3; subst h4
  go_enter Tryd.func5, Tryd.ntmps5
  go_wp2_with fail
  refine ((HA.out _ (he.stays (by go_grown))).mono ?_); rintro e w1 ⟨rfl, hb1⟩
  obtain ⟨k1, k2, k3, k4, k5, k6, k7, k8⟩ := keep3_new hb1
  clear hb1
  go_wp2_with fail
  refine (H1.out _).mono ?_; rintro e w2 ⟨rfl, hb2⟩
  have hk := keep3 hb2 ⟨k1, k2, k3, k4, k5, k6, k7, k8⟩
  clear k1 k2 k3 k4 k5 k6 k7 k8 hb2
  obtain ⟨k1, k2, k3, k4, k5, k6, k7, k8⟩ := hk
  go_wp2_with fail
  refine (H2.out _).mono ?_; rintro e w3 ⟨rfl, hb3⟩
  have hk := keep3 hb3 ⟨k1, k2, k3, k4, k5, k6, k7, k8⟩
  clear k1 k2 k3 k4 k5 k6 k7 k8 hb3
  obtain ⟨k1, k2, k3, k4, k5, k6, k7, k8⟩ := hk
  go_wp2_with fail
  refine (H3.out _).mono ?_; rintro e w4 ⟨rfl, hb4⟩
  have hk := keep3 hb4 ⟨k1, k2, k3, k4, k5, k6, k7, k8⟩
  clear k1 k2 k3 k4 k5 k6 k7 k8 hb4
  obtain ⟨k1, k2, k3, k4, k5, k6, k7, k8⟩ := hk
  go_wp2_with fail
  refine (H4.out _).mono ?_; rintro e w5 ⟨rfl, hb5⟩
  have hk := keep3 hb5 ⟨k1, k2, k3, k4, k5, k6, k7, k8⟩
  clear k1 k2 k3 k4 k5 k6 k7 k8 hb5
  obtain ⟨k1, k2, k3, k4, k5, k6, k7, k8⟩ := hk
  go_wp2_with fail
  go_ret
  exact ⟨rfl, k8⟩
set_option maxRecDepth 100000 in
set_option maxHeartbeats 2000000 in
theorem order_gy (m s n t p q : Int) (w : World) (he : Env w) (ab ba eab bc ebc ac eac : Int)
    (H1 : Hid (∀ w, Calls Tryd.prog 13 #[.agg #[.int .i64 m, .int .i64 s], .agg #[.int .i64 n, .int .i64 t]] w fun e w' => e = .returned (.tuple #[.int .i64 ab, .int .i64 eab]) ∧ Below w.heap.size w w'))
    (H2 : Hid (∀ w, Calls Tryd.prog 13 #[.agg #[.int .i64 n, .int .i64 t], .agg #[.int .i64 m, .int .i64 s]] w fun e w' => e = .returned (.tuple #[.int .i64 ba, .int .i64 eab]) ∧ Below w.heap.size w w'))
    (H3 : Hid (∀ w, Calls Tryd.prog 13 #[.agg #[.int .i64 n, .int .i64 t], .agg #[.int .i64 p, .int .i64 q]] w fun e w' => e = .returned (.tuple #[.int .i64 bc, .int .i64 ebc]) ∧ Below w.heap.size w w'))
    (H4 : Hid (∀ w, Calls Tryd.prog 13 #[.agg #[.int .i64 m, .int .i64 s], .agg #[.int .i64 p, .int .i64 q]] w fun e w' => e = .returned (.tuple #[.int .i64 ac, .int .i64 eac]) ∧ Below w.heap.size w w'))
    (h1 : eab = 0) (h2 : ab = 1) (h3 : ba = -1) (hq : ∀ w, (binOp .eql 23 (.agg #[.int .i64 m, .int .i64 s]) (.agg #[.int .i64 n, .int .i64 t])).run Tryd.prog w = .ok (.bool false) w) (h4 : ebc = 0) (h5 : eac = 0) :
    Calls Tryd.prog 5 #[.agg #[.int .i64 m, .int .i64 s], .agg #[.int .i64 n, .int .i64 t], .agg #[.int .i64 p, .int .i64 q]] w fun e w' => e = .returned (.bool true) ∧ Below w.heap.size w w' := by
  have HA := Lib.hid (fun w he => alive_true w he)
  subst h1; subst h2; subst h3; subst h4; subst h5
  go_enter Tryd.func5, Tryd.ntmps5
  go_wp2_with fail
  refine ((HA.out _ (he.stays (by go_grown))).mono ?_); rintro e w1 ⟨rfl, hb1⟩
  obtain ⟨k1, k2, k3, k4, k5, k6, k7, k8⟩ := keep3_new hb1
  clear hb1
  go_wp2_with fail
  refine (H1.out _).mono ?_; rintro e w2 ⟨rfl, hb2⟩
  have hk := keep3 hb2 ⟨k1, k2, k3, k4, k5, k6, k7, k8⟩
  clear k1 k2 k3 k4 k5 k6 k7 k8 hb2
  obtain ⟨k1, k2, k3, k4, k5, k6, k7, k8⟩ := hk
  go_wp2_with fail
  refine (H2.out _).mono ?_; rintro e w3 ⟨rfl, hb3⟩
  have hk := keep3 hb3 ⟨k1, k2, k3, k4, k5, k6, k7, k8⟩
  clear k1 k2 k3 k4 k5 k6 k7 k8 hb3
  obtain ⟨k1, k2, k3, k4, k5, k6, k7, k8⟩ := hk
  go_wp2_with fail
  refine (H3.out _).mono ?_; rintro e w4 ⟨rfl, hb4⟩
  have hk := keep3 hb4 ⟨k1, k2, k3, k4, k5, k6, k7, k8⟩
  clear k1 k2 k3 k4 k5 k6 k7 k8 hb4
  obtain ⟨k1, k2, k3, k4, k5, k6, k7, k8⟩ := hk
  go_wp2_with fail
  refine (H4.out _).mono ?_; rintro e w5 ⟨rfl, hb5⟩
  have hk := keep3 hb5 ⟨k1, k2, k3, k4, k5, k6, k7, k8⟩
  clear k1 k2 k3 k4 k5 k6 k7 k8 hb5
  obtain ⟨k1, k2, k3, k4, k5, k6, k7, k8⟩ := hk
  go_wp2_with fail
  go_ret
  exact ⟨rfl, k8⟩
theorem eq_scl {m s n t : Int} (h : may m s = true) (k : may n t = true) : (m == n && s == t) = decide (scl m s = scl n t) := by
  rw [Bool.eq_iff_iff, Bool.and_eq_true, beq_iff_eq, beq_iff_eq, decide_eq_true_eq]
  constructor
  · rintro ⟨rfl, rfl⟩; rfl
  · exact fun e => scl_inj h k e
theorem order_walk (m s n t p q : Int) (hm : R m) (hs : R s) (hn : R n) (ht : R t) (hp : R p) (hq : R q) (w : World) (he : Env w) :
    Calls Tryd.prog 5 #[.agg #[.int .i64 m, .int .i64 s], .agg #[.int .i64 n, .int .i64 t], .agg #[.int .i64 p, .int .i64 q]] w fun e w' => e = .returned (.bool true) ∧ Below w.heap.size w w' := by
  have H1 := Lib.hid (fun w => mcmp_any m s n t hm hs hn ht w)
  have H2 := Lib.hid (fun w => mcmp_any n t m s hn ht hm hs w)
  have H3 := Lib.hid (fun w => mcmp_any n t p q hn ht hp hq w)
  have H4 := Lib.hid (fun w => mcmp_any m s p q hm hs hp hq w)
  rw [cmpE_comm, cmpV_comm] at H2
  rcases cmp_two m s n t with ⟨e1, h1, h2⟩ | e1
  · have hab := (cmp_fine h1 h2).1
    have hE := eq_scl h1 h2
    rcases cmp_two n t p q with ⟨e2, _, h3⟩ | e2
    · have hbc := (cmp_fine h2 h3).1
      obtain ⟨hac, e3⟩ := cmp_fine h1 h3
      have htr := cmpI_trans (scl m s) (scl n t) (scl p q)
      rcases cmpI_val (scl m s) (scl n t) with ⟨v, u⟩ | ⟨v, u⟩ | ⟨v, u⟩
      · have hq0 : ∀ w, (binOp .eql 23 (.agg #[.int .i64 m, .int .i64 s]) (.agg #[.int .i64 n, .int .i64 t])).run Tryd.prog w = .ok (.bool false) w := fun w => by rw [money_eql, hE, decide_eq_false (by omega)]
        rcases cmpI_val (scl n t) (scl p q) with ⟨v2, _⟩ | ⟨v2, _⟩ | ⟨v2, _⟩
        · exact order_ln m s n t p q w he _ _ _ _ _ _ _ H1 H2 H3 H4 e1 (hab.trans v) (by rw [hab, v]; rfl) hq0 e2 e3 (hbc.trans v2) (by rw [hac, htr (by omega) (by omega)]; omega)
        · exact order_lz m s n t p q w he _ _ _ _ _ _ _ H1 H2 H3 H4 e1 (hab.trans v) (by rw [hab, v]; rfl) hq0 e2 e3 (hbc.trans v2) (by rw [hac, htr (by omega) (by omega)]; omega)
        · exact order_lp m s n t p q w he _ _ _ _ _ _ _ H1 H2 H3 H4 e1 (hab.trans v) (by rw [hab, v]; rfl) hq0 e2 e3 (hbc.trans v2)
      · have hq0 : ∀ w, (binOp .eql 23 (.agg #[.int .i64 m, .int .i64 s]) (.agg #[.int .i64 n, .int .i64 t])).run Tryd.prog w = .ok (.bool true) w := fun w => by rw [money_eql, hE, decide_eq_true u]
        rcases cmpI_val (scl n t) (scl p q) with ⟨v2, _⟩ | ⟨v2, _⟩ | ⟨v2, _⟩
        · exact order_en m s n t p q w he _ _ _ _ _ _ _ H1 H2 H3 H4 e1 (hab.trans v) (by rw [hab, v]; rfl) hq0 e2 e3 (hbc.trans v2) (by rw [hac, htr (by omega) (by omega)]; omega)
        · exact order_ez m s n t p q w he _ _ _ _ _ _ _ H1 H2 H3 H4 e1 (hab.trans v) (by rw [hab, v]; rfl) hq0 e2 e3 (hbc.trans v2) (by rw [hac, htr (by omega) (by omega)]; omega)
        · exact order_ep m s n t p q w he _ _ _ _ _ _ _ H1 H2 H3 H4 e1 (hab.trans v) (by rw [hab, v]; rfl) hq0 e2 e3 (hbc.trans v2)
      · have hq0 : ∀ w, (binOp .eql 23 (.agg #[.int .i64 m, .int .i64 s]) (.agg #[.int .i64 n, .int .i64 t])).run Tryd.prog w = .ok (.bool false) w := fun w => by rw [money_eql, hE, decide_eq_false (by omega)]
        exact order_gy m s n t p q w he _ _ _ _ _ _ _ H1 H2 H3 H4 e1 (hab.trans v) (by rw [hab, v]) hq0 e2 e3
    · rcases cmpI_val (scl m s) (scl n t) with ⟨v, u⟩ | ⟨v, u⟩ | ⟨v, u⟩
      · exact order_lx m s n t p q w he _ _ _ _ _ _ _ H1 H2 H3 H4 e1 (hab.trans v) (by rw [hab, v]; rfl) (fun w => by rw [money_eql, hE, decide_eq_false (by omega)]) e2
      · exact order_ex m s n t p q w he _ _ _ _ _ _ _ H1 H2 H3 H4 e1 (hab.trans v) (by rw [hab, v]; rfl) (fun w => by rw [money_eql, hE, decide_eq_true u]) e2
      · exact order_gx m s n t p q w he _ _ _ _ _ _ _ H1 H2 H3 H4 e1 (hab.trans v) (by rw [hab, v]) (fun w => by rw [money_eql, hE, decide_eq_false (by omega)]) e2
  · exact order_bad m s n t p q w he _ _ _ _ _ _ _ H1 H2 H3 H4 e1 (cmp_bad e1) (by rw [cmp_bad e1]; rfl)
end Go.Proofs.YtfhgcpmadajbdaaDoor
