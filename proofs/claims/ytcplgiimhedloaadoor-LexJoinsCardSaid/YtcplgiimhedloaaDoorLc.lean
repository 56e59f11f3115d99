/- The walk through the program's Check (lex): may a token be? -/
import Derived.Test.YtcplgiimhedloaaDoorIx
import Derived.Test.YtcplgiimhedloaaDoorLn
import Derived.Test.YtcplgiimhedloaaDoorTc
import Derived.Test.YtcplgiimhedloaaDoorLp
set_option linter.unusedSimpArgs false
set_option linter.unusedVariables false
namespace Go.Proofs.YtcplgiimhedloaaDoor
open Go.RowKit
set_option maxRecDepth 100000 in
theorem lcheck_end_y (x : ByteArray) (p : Int) (h1 : x.toList = []) (h2 : x.toList.isEmpty = true) (w : World) :
    Calls Tryd.prog 7 #[.agg #[.int .u8 0, .string x, .int .i64 p]] w fun e w' => e = .returned (.int .i64 (0)) ∧ Below w.heap.size w w' := by
  go_enter Tryd.func7, Tryd.ntmps7
  go_wp2_with fail
  go_ret
  exact ⟨rfl, (Below.refl _ _).alloc (Nat.le_refl _) _⟩
set_option maxRecDepth 100000 in
theorem lcheck_end_n (x : ByteArray) (p : Int) (h1 : ¬ x.toList = []) (h2 : x.toList.isEmpty = false) (w : World) :
    Calls Tryd.prog 7 #[.agg #[.int .u8 0, .string x, .int .i64 p]] w fun e w' => e = .returned (.int .i64 (8)) ∧ Below w.heap.size w w' := by
  go_enter Tryd.func7, Tryd.ntmps7
  go_wp2_with fail
  go_ret
  exact ⟨rfl, (Below.refl _ _).alloc (Nat.le_refl _) _⟩
set_option maxRecDepth 100000 in
theorem lcheck_name (x : ByteArray) (b : Bool) (p : Int) (H : Hid (∀ w, Calls Tryd.prog 14 #[.string x] w fun e w' => e = .returned (.bool b) ∧ Below w.heap.size w w')) (w : World) :
    Calls Tryd.prog 7 #[.agg #[.int .u8 1, .string x, .int .i64 p]] w fun e w' => e = .returned (.int .i64 (if b then 0 else 8)) ∧ Below w.heap.size w w' := by
  cases b
  all_goals
    go_enter Tryd.func7, Tryd.ntmps7
    go_wp2_with fail
    refine (H.out _).mono ?_; rintro e w1 ⟨rfl, hb⟩
    have HW : Below w.heap.size w w1 := ((Below.refl _ _).alloc (Nat.le_refl _) _).trans (hb.mono (by simp))
    clear hb
    go_wp2_with fail
    go_ret
    exact ⟨rfl, HW⟩
set_option maxRecDepth 100000 in
theorem lcheck_int (x : ByteArray) (b : Bool) (p : Int) (H : Hid (∀ w, Calls Tryd.prog 15 #[.string x] w fun e w' => e = .returned (.bool b) ∧ Below w.heap.size w w')) (w : World) :
    Calls Tryd.prog 7 #[.agg #[.int .u8 2, .string x, .int .i64 p]] w fun e w' => e = .returned (.int .i64 (if b then 0 else 8)) ∧ Below w.heap.size w w' := by
  cases b
  all_goals
    go_enter Tryd.func7, Tryd.ntmps7
    go_wp2_with fail
    refine (H.out _).mono ?_; rintro e w1 ⟨rfl, hb⟩
    have HW : Below w.heap.size w w1 := ((Below.refl _ _).alloc (Nat.le_refl _) _).trans (hb.mono (by simp))
    clear hb
    go_wp2_with fail
    go_ret
    exact ⟨rfl, HW⟩
set_option maxRecDepth 100000 in
theorem lcheck_text (x : ByteArray) (c : Int) (p : Int) (w : World) (H : Hid (∀ V, Below w.heap.size w V → Calls Tryd.prog 16 #[.string x] V fun e w' => e = .returned (.int .i64 c) ∧ Below V.heap.size V w')) (hc : c = 0 ∨ c = 4 ∨ c = 10) :
    Calls Tryd.prog 7 #[.agg #[.int .u8 3, .string x, .int .i64 p]] w fun e w' => e = .returned (.int .i64 (if c = 0 then 0 else 8)) ∧ Below w.heap.size w w' := by
  rcases hc with rfl | rfl | rfl
  all_goals
    go_enter Tryd.func7, Tryd.ntmps7
    go_wp2_with fail
    refine (H.out _ (by exact (Below.refl _ _).alloc (Nat.le_refl _) _)).mono ?_; rintro e w1 ⟨rfl, hb⟩
    have HW : Below w.heap.size w w1 := ((Below.refl _ _).alloc (Nat.le_refl _) _).trans (hb.mono (by simp))
    clear hb
    go_wp2_with fail
    go_ret
    exact ⟨rfl, HW⟩
set_option maxRecDepth 100000 in
theorem lcheck_dots (x : ByteArray) (p : Int) (h : (x.toList == [46, 46, 46]) = true) (w : World) :
    Calls Tryd.prog 7 #[.agg #[.int .u8 4, .string x, .int .i64 p]] w fun e w' => e = .returned (.int .i64 (0)) ∧ Below w.heap.size w w' := by
  go_enter Tryd.func7, Tryd.ntmps7
  go_wp2_with fail
  go_ret
  exact ⟨rfl, (Below.refl _ _).alloc (Nat.le_refl _) _⟩
set_option maxRecDepth 100000 in
theorem lcheck_long (x : ByteArray) (p : Int) (h : (x.toList == [46, 46, 46]) = false) (h2 : ((x.size : Int) == 1) = false) (w : World) :
    Calls Tryd.prog 7 #[.agg #[.int .u8 4, .string x, .int .i64 p]] w fun e w' => e = .returned (.int .i64 (8)) ∧ Below w.heap.size w w' := by
  go_enter Tryd.func7, Tryd.ntmps7
  go_wp2_with fail
  go_ret
  exact ⟨rfl, (Below.refl _ _).alloc (Nat.le_refl _) _⟩
set_option maxRecDepth 100000 in
theorem lcheck_mark (x : ByteArray) (b : Bool) (p : Int) (h : (x.toList == [46, 46, 46]) = false) (h2 : ((x.size : Int) == 1) = true) (H : Hid (∀ w, Calls Tryd.prog 17 #[.string ⟨#[33, 36, 38, 40, 41, 58, 61, 64, 91, 93, 123, 124, 125]⟩, .string x] w fun e w' => e = .returned (.bool b) ∧ Below w.heap.size w w')) (w : World) :
    Calls Tryd.prog 7 #[.agg #[.int .u8 4, .string x, .int .i64 p]] w fun e w' => e = .returned (.int .i64 (if b then 0 else 8)) ∧ Below w.heap.size w w' := by
  cases b
  all_goals
    go_enter Tryd.func7, Tryd.ntmps7
    go_wp2_with fail
    refine (H.out _).mono ?_; rintro e w1 ⟨rfl, hb⟩
    have HW : Below w.heap.size w w1 := ((Below.refl _ _).alloc (Nat.le_refl _) _).trans (hb.mono (by simp))
    clear hb
    go_wp2_with fail
    go_ret
    exact ⟨rfl, HW⟩
set_option maxRecDepth 100000 in
theorem lcheck_other (x : ByteArray) (k : Int) (p : Int) (h0 : (k == 0) = false) (h1 : (k == 1) = false) (h2 : (k == 2) = false) (h3 : (k == 3) = false) (h4 : (k == 4) = false) (w : World) :
    Calls Tryd.prog 7 #[.agg #[.int .u8 k, .string x, .int .i64 p]] w fun e w' => e = .returned (.int .i64 (8)) ∧ Below w.heap.size w w' := by
  go_enter Tryd.func7, Tryd.ntmps7
  go_wp2_with fail
  go_ret
  exact ⟨rfl, (Below.refl _ _).alloc (Nat.le_refl _) _⟩
end Go.Proofs.YtcplgiimhedloaaDoor
