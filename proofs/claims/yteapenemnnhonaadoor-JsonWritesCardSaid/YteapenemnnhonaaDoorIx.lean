/- The walks through strings.Index and strings.Contains at one byte. -/
import Derived.Test.YteapenemnnhonaaDoorPn
import Derived.Lib.Bytealg
import Derived.Lib.Strings
import Derived.Lib.IndexBytes
set_option linter.unusedSimpArgs false
set_option linter.unusedVariables false
namespace Go.Proofs.YteapenemnnhonaaDoor
open Go.RowKit
theorem ix_indexByteString_run (s : ByteArray) (c : Int) (w : World) :
    (callFunc 41 #[.string s, .int .u8 c]).run Tryd.prog w = .ok (.value (.int .i64 (Lib.indexByte s.data.toList c.toNat.toUInt8))) w := by
  rw [run_callFunc_extern Tryd.func41 (by kernel_rfl) (by kernel_rfl) (by kernel_rfl) (e := Extern.BytealgIndexByte.indexByte) (by kernel_rfl), Lib.run_indexByteString]
  rfl
theorem ix_slIndexByte_any (s : ByteArray) (c : Int) (w : World) :
    Calls Tryd.prog 32 #[.string s, .int .u8 c] w fun e w' => e = .returned (.int .i64 (Lib.indexByte s.data.toList c.toNat.toUInt8)) ∧ w = w' := by
  have h := ix_indexByteString_run s c
  generalize Lib.indexByte s.data.toList c.toNat.toUInt8 = r at *
  go_enter Tryd.func32, Tryd.ntmps32
  go_wp2_with fail
  go_ret
  exact ⟨rfl, rfl⟩
theorem ix_index_one (s : ByteArray) (c : UInt8) (w : World) :
    Calls Tryd.prog 82 #[.string s, .string ⟨#[c]⟩] w fun e w' => e = .returned (.int .i64 (Lib.indexByte s.data.toList c)) ∧ w = w' := by
  by_cases h : s.data.toList = [c]
  · have hs : s = ⟨#[c]⟩ := by
      obtain ⟨d⟩ := s
      have : d = #[c] := by apply Array.ext'; simpa using h
      rw [this]
    subst hs
    have e : Lib.indexByte (⟨#[c]⟩ : ByteArray).data.toList c = 0 := by rw [h]; simp [Lib.indexByte]
    rw [e]
    go_enter Tryd.func82, Tryd.ntmps82
    go_wp2_with fail
    go_ret
    exact ⟨rfl, rfl⟩
  · have hb : ([c] == s.toList) = false := by
      rw [beq_eq_false_iff_ne, ByteArray.toList_eq]; exact fun e => h e.symm
    have H := Lib.hid (fun w => ix_slIndexByte_any s (c.toNat : Int) w)
    rw [show ((c.toNat : Int)).toNat.toUInt8 = c by simp] at H
    clear h
    go_enter Tryd.func82, Tryd.ntmps82
    go_wp2_with fail
    refine (H.out _).mono ?_; rintro e w1 ⟨rfl, rfl⟩
    go_wp2_with fail
    go_ret
    exact ⟨rfl, rfl⟩
theorem ix_sindex (s : ByteArray) (c : UInt8) (w : World) :
    Calls Tryd.prog 75 #[.string s, .string ⟨#[c]⟩] w fun e w' => e = .returned (.int .i64 (Lib.indexByte s.data.toList c)) ∧ w = w' := by
  have H := Lib.hid (fun w => ix_index_one s c w)
  generalize Lib.indexByte s.data.toList c = r at *
  go_enter Tryd.func75, Tryd.ntmps75
  go_wp2_with fail
  refine (H.out _).mono ?_; rintro e w1 ⟨rfl, rfl⟩
  go_wp2_with fail
  go_ret
  exact ⟨rfl, rfl⟩
theorem ix_contains (s : ByteArray) (c : UInt8) (w : World) :
    Calls Tryd.prog 60 #[.string s, .string ⟨#[c]⟩] w fun e w' => e = .returned (.bool (s.data.toList.contains c)) ∧ w = w' := by
  have H := fun w => ix_sindex s c w
  rcases ib_cases c s.data.toList with ⟨g1, n, g2⟩ | ⟨g1, g2⟩
  all_goals
    rw [g1]
    rw [g2] at H
    have HI := Lib.hid H
    clear H g1 g2
    go_enter Tryd.func60, Tryd.ntmps60
    go_wp2_with fail
    refine (HI.out _).mono ?_; rintro e w1 ⟨rfl, rfl⟩
    go_wp2_with fail
    go_ret
    first | exact ⟨rfl, rfl⟩ | exact ⟨ret_b (decide_eq_true (p := (0 : Int) ≤ n) (by omega)), rfl⟩
end Go.Proofs.YteapenemnnhonaaDoor
