/- The walks through the reference's May and Check (provostref17). -/
import Derived.Test.YtcplgiimhedloaaDoorLd
import Derived.Test.YtcplgiimhedloaaDoorRi
set_option linter.unusedSimpArgs false
set_option linter.unusedVariables false
namespace Go.Proofs.YtcplgiimhedloaaDoor
open Go.RowKit
set_option maxRecDepth 100000 in
theorem rmay_end_y (x : ByteArray) (p : Int) (h1 : x.toList = []) (h2 : x.toList.isEmpty = true) (w : World) :
    Calls Tryd.prog 12 #[.agg #[.int .u8 0, .string x, .int .i64 p]] w fun e w' => e = .returned (.bool (true)) ∧ Below w.heap.size w w' := by
  go_enter Tryd.func12, Tryd.ntmps12
  go_wp2_with fail
  go_ret
  exact ⟨rfl, (Below.refl _ _).alloc (Nat.le_refl _) _⟩
set_option maxRecDepth 100000 in
theorem rmay_end_n (x : ByteArray) (p : Int) (h1 : ¬ x.toList = []) (h2 : x.toList.isEmpty = false) (w : World) :
    Calls Tryd.prog 12 #[.agg #[.int .u8 0, .string x, .int .i64 p]] w fun e w' => e = .returned (.bool (false)) ∧ Below w.heap.size w w' := by
  go_enter Tryd.func12, Tryd.ntmps12
  go_wp2_with fail
  go_ret
  exact ⟨rfl, (Below.refl _ _).alloc (Nat.le_refl _) _⟩
set_option maxRecDepth 100000 in
theorem rmay_name (x : ByteArray) (b : Bool) (p : Int) (H : Hid (∀ w, Calls Tryd.prog 22 #[.string x] w fun e w' => e = .returned (.bool b) ∧ Below w.heap.size w w')) (w : World) :
    Calls Tryd.prog 12 #[.agg #[.int .u8 1, .string x, .int .i64 p]] w fun e w' => e = .returned (.bool (b)) ∧ Below w.heap.size w w' := by
  go_enter Tryd.func12, Tryd.ntmps12
  go_wp2_with fail
  refine (H.out _).mono ?_; rintro e w1 ⟨rfl, hb⟩
  have HW : Below w.heap.size w w1 := ((Below.refl _ _).alloc (Nat.le_refl _) _).trans (hb.mono (by simp))
  clear hb
  go_wp2_with fail
  go_ret
  exact ⟨rfl, HW⟩
set_option maxRecDepth 100000 in
theorem rmay_int (x : ByteArray) (b : Bool) (p : Int) (H : Hid (∀ w, Calls Tryd.prog 23 #[.string x] w fun e w' => e = .returned (.bool b) ∧ Below w.heap.size w w')) (w : World) :
    Calls Tryd.prog 12 #[.agg #[.int .u8 2, .string x, .int .i64 p]] w fun e w' => e = .returned (.bool (b)) ∧ Below w.heap.size w w' := by
  go_enter Tryd.func12, Tryd.ntmps12
  go_wp2_with fail
  refine (H.out _).mono ?_; rintro e w1 ⟨rfl, hb⟩
  have HW : Below w.heap.size w w1 := ((Below.refl _ _).alloc (Nat.le_refl _) _).trans (hb.mono (by simp))
  clear hb
  go_wp2_with fail
  go_ret
  exact ⟨rfl, HW⟩
set_option maxRecDepth 100000 in
theorem rmay_mark (x : ByteArray) (b : Bool) (p : Int) (H : Hid (∀ w, Calls Tryd.prog 25 #[.string x] w fun e w' => e = .returned (.bool b) ∧ Below w.heap.size w w')) (w : World) :
    Calls Tryd.prog 12 #[.agg #[.int .u8 4, .string x, .int .i64 p]] w fun e w' => e = .returned (.bool (b)) ∧ Below w.heap.size w w' := by
  go_enter Tryd.func12, Tryd.ntmps12
  go_wp2_with fail
  refine (H.out _).mono ?_; rintro e w1 ⟨rfl, hb⟩
  have HW : Below w.heap.size w w1 := ((Below.refl _ _).alloc (Nat.le_refl _) _).trans (hb.mono (by simp))
  clear hb
  go_wp2_with fail
  go_ret
  exact ⟨rfl, HW⟩
set_option maxRecDepth 100000 in
theorem rmay_text (x : ByteArray) (c : Int) (p : Int) (H : Hid (∀ w, Calls Tryd.prog 24 #[.string x] w fun e w' => e = .returned (.int .i64 c) ∧ Below w.heap.size w w')) (hc : c = 0 ∨ c = 4 ∨ c = 10) (w : World) :
    Calls Tryd.prog 12 #[.agg #[.int .u8 3, .string x, .int .i64 p]] w fun e w' => e = .returned (.bool (decide (c = 0))) ∧ Below w.heap.size w w' := by
  rcases hc with rfl | rfl | rfl
  all_goals
    go_enter Tryd.func12, Tryd.ntmps12
    go_wp2_with fail
    refine (H.out _).mono ?_; rintro e w1 ⟨rfl, hb⟩
    have HW : Below w.heap.size w w1 := ((Below.refl _ _).alloc (Nat.le_refl _) _).trans (hb.mono (by simp))
    clear hb
    go_wp2_with fail
    go_ret
    exact ⟨rfl, HW⟩
set_option maxRecDepth 100000 in
theorem rmay_other (x : ByteArray) (k : Int) (p : Int) (h0 : (k == 0) = false) (h1 : (k == 1) = false) (h2 : (k == 2) = false) (h3 : (k == 3) = false) (h4 : (k == 4) = false) (w : World) :
    Calls Tryd.prog 12 #[.agg #[.int .u8 k, .string x, .int .i64 p]] w fun e w' => e = .returned (.bool (false)) ∧ Below w.heap.size w w' := by
  go_enter Tryd.func12, Tryd.ntmps12
  go_wp2_with fail
  go_ret
  exact ⟨rfl, (Below.refl _ _).alloc (Nat.le_refl _) _⟩
theorem rmay_any (k : UInt8) (x : ByteArray) (p : Int) (hx : x.size ≤ 1000000) (w : World) :
    Calls Tryd.prog 12 #[.agg #[.int .u8 (k.toNat : Int), .string x, .int .i64 p]] w fun e w' => e = .returned (.bool (okT ⟨k, x.data.toList, p⟩)) ∧ Below w.heap.size w w' := by
  unfold okT
  dsimp only
  by_cases k0 : k = 0
  · subst k0
    rw [if_pos rfl]
    rcases empty_z x with ⟨a0, a1, a2, a3⟩ | ⟨a0, a1, a2, a3⟩
    · have : x.data.toList.isEmpty = false := by cases h : x.data.toList with
        | nil => exact absurd h a3
        | cons _ _ => rfl
      rw [this]
      exact rmay_end_n x p a1 a2 w
    · rw [a3]
      exact rmay_end_y x p a1 a2 w
  rw [if_neg k0]
  by_cases k1 : k = 1
  · subst k1
    rw [if_pos rfl]
    exact rmay_name x _ p (Lib.hid (below_same fun w => rname_any x hx w)) w
  rw [if_neg k1]
  by_cases k2 : k = 2
  · subst k2
    rw [if_pos rfl]
    exact rmay_int x _ p (Lib.hid (below_same fun w => rint_any x hx w)) w
  rw [if_neg k2]
  by_cases k3 : k = 3
  · subst k3
    rw [if_pos rfl]
    have ht : textB x.data.toList = decide (chkE x.data.toList = 0) := by
      unfold textB chkE
      by_cases q : 16384 < x.data.toList.length
      · rw [if_pos q, decide_eq_false (by omega)]; rfl
      · rw [if_neg q, decide_eq_true (by omega), Bool.true_and]
        cases Lib.validD x.data.toList <;> rfl
    rw [ht]
    refine rmay_text x _ p (Lib.hid fun w => rcheck01_any x hx w) ?_ w
    unfold chkE
    by_cases q : 16384 < x.data.toList.length
    · rw [if_pos q]; right; left; rfl
    · rw [if_neg q]
      cases Lib.validD x.data.toList
      · right; right; rfl
      · left; rfl
  rw [if_neg k3]
  by_cases k4 : k = 4
  · subst k4
    rw [if_pos rfl]
    exact rmay_mark x _ p (Lib.hid (below_same fun w => rmark_any x hx w)) w
  rw [if_neg k4]
  have ne : ∀ n : Nat, n < 256 → k ≠ UInt8.ofNat n → ((k.toNat : Int) == (n : Int)) = false := by
    intro n hn h
    rw [beq_eq_false_iff_ne]
    intro e
    exact h (UInt8.toNat_inj.1 (by rw [UInt8.toNat_ofNat']; omega))
  exact rmay_other x _ p (ne 0 (by omega) k0) (ne 1 (by omega) k1) (ne 2 (by omega) k2) (ne 3 (by omega) k3) (ne 4 (by omega) k4) w
set_option maxRecDepth 100000 in
theorem rcheck17_any (k : UInt8) (x : ByteArray) (p : Int) (hx : x.size ≤ 1000000) (w : World) :
    Calls Tryd.prog 8 #[.agg #[.int .u8 (k.toNat : Int), .string x, .int .i64 p]] w fun e w' => e = .returned (.int .i64 (if okT ⟨k, x.data.toList, p⟩ then 0 else 8)) ∧ Below w.heap.size w w' := by
  have H := Lib.hid (fun w => rmay_any k x p hx w)
  generalize okT ⟨k, x.data.toList, p⟩ = b at *
  generalize (k.toNat : Int) = n at *
  cases b
  all_goals
    go_enter Tryd.func8, Tryd.ntmps8
    go_wp2_with fail
    refine (H.out _).mono ?_; rintro e w1 ⟨rfl, hb⟩
    have HW : Below w.heap.size w w1 := ((Below.refl _ _).alloc (Nat.le_refl _) _).trans (hb.mono (by simp))
    clear hb
    go_wp2_with fail
    go_ret
    exact ⟨rfl, HW⟩
end Go.Proofs.YtcplgiimhedloaaDoor
