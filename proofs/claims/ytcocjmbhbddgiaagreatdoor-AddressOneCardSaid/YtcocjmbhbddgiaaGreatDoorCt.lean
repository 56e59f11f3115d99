/- The walk through strings.Contains at one byte. -/
import Derived.Test.YtcocjmbhbddgiaaGreatDoorCu
set_option linter.unusedSimpArgs false
set_option linter.unusedVariables false
namespace Go.Proofs.YtcocjmbhbddgiaaGreatDoor
open Go.RowKit
theorem sindex_one (s : ByteArray) (c : UInt8) (w : World) :
    Calls Tryz.prog 56 #[.string s, .string ⟨#[c]⟩] w fun e w' => e = .returned (.int .i64 (Lib.indexByte s.data.toList c)) ∧ w = w' := by
  have H := Lib.hid (fun w => index_one s c w)
  generalize Lib.indexByte s.data.toList c = r at *
  go_enter Tryz.func56, Tryz.ntmps56
  go_wp2_with fail
  refine (H.out _).mono ?_; rintro e w1 ⟨rfl, rfl⟩
  go_wp2_with fail
  go_ret
  exact ⟨rfl, rfl⟩
theorem scontains_one (s : ByteArray) (c : UInt8) (w : World) :
    Calls Tryz.prog 33 #[.string s, .string ⟨#[c]⟩] w fun e w' => e = .returned (.bool (s.data.toList.contains c)) ∧ w = w' := by
  have H := Lib.hid (fun w => sindex_one s c w)
  rw [indexByte_ahead] at H
  cases hc : s.data.toList.contains c
  · rw [hc] at H
    simp only [Bool.false_eq_true, if_false] at H
    clear hc
    go_enter Tryz.func33, Tryz.ntmps33
    go_wp2_with fail
    refine (H.out _).mono ?_; rintro e w1 ⟨rfl, rfl⟩
    go_wp2_with fail
    go_ret
    exact ⟨rfl, rfl⟩
  · rw [hc] at H
    simp only [if_true] at H
    clear hc
    generalize (ahead c s.data.toList).length = n at *
    go_enter Tryz.func33, Tryz.ntmps33
    go_wp2_with fail
    refine (H.out _).mono ?_; rintro e w1 ⟨rfl, rfl⟩
    go_wp2_with fail
    go_ret
    first | exact ⟨rfl, rfl⟩ | exact ⟨congrArg (fun b : Bool => Ending.returned (Value.bool b)) (decide_eq_true (p := (0 : Int) ≤ n) (by omega)), rfl⟩
end Go.Proofs.YtcocjmbhbddgiaaGreatDoor
