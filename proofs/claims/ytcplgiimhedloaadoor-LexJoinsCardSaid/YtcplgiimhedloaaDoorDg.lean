/- The walk through the reference's Digits (provostref02). -/
import Derived.Test.YtcplgiimhedloaaDoorRows
import Derived.Test.YtcplgiimhedloaaDoorRq
import Derived.WalkKit
import Derived.WalkSpells
import Derived.Handy
import Derived.Lib.Hide
import Derived.Deep.Light
import Derived.Lib.ItoaLen
set_option linter.unusedSimpArgs false
set_option linter.unusedVariables false
namespace Go.Proofs.YtcplgiimhedloaaDoor
open Go.RowKit
set_option maxHeartbeats 400000 in
theorem digits_any (s : ByteArray) (w : World) (hs : s.size ≤ maxLen) :
    Calls Tryd.prog 34 #[.string s] w fun e w' => e = .returned (.bool (digitsB s.data.toList)) ∧ w = w' := by
  unfold maxLen at hs
  go_enter Tryd.func34, Tryd.ntmps34
  go_wp2
  go_loop [3] (fun i => ∃ k : Nat, k ≤ s.size ∧ i = .int .i64 k ∧ (s.data.toList.take k).all isDig = true) (fun i => s.size - (intOf i).toNat)
  case atStart => exact ⟨0, Nat.zero_le _, rfl, rfl⟩
  case round =>
    obtain ⟨k, hk, rfl, hall⟩ := hrel
    have HA := Lib.hid hall
    clear hall
    by_cases hlt : k < s.size
    · have HT := Lib.hid (all_take_snoc s k hlt)
      by_cases hd : isDig s[k] = true
      · have HD := Lib.hid hd
        obtain ⟨d1, d2⟩ := (dig_of _).1 hd
        clear hd
        go_wp2
        go_round
        case rel => exact ⟨k + 1, by omega, by go_num, by rw [HT.out, HA.out, HD.out]; rfl⟩
        case measure => simp [intOf]; omega
      · have hno : s.data.toList.all isDig = false := all_of_take _ (k + 1) (by rw [HT.out]; simp [hd])
        have HN : Hid (digitsB s.data.toList = false) := by unfold digitsB; rw [hno]; rfl
        have hd2 := dig_not hd
        clear hno hd
        rcases hd2 with d1 | d1
        · go_wp2
          go_ret
          exact ⟨ret1 HN.out.symm, rfl⟩
        · have d0 : 48 ≤ (s[k].toNat : Int) := by omega
          go_wp2
          go_ret
          exact ⟨ret1 HN.out.symm, rfl⟩
    · go_wp2
      go_ret
      refine ⟨ret1 ?_, rfl⟩
      have h1 := HA.out
      rw [List.take_of_length_le (by simp; omega)] at h1
      unfold digitsB
      rw [h1, Bool.eq_iff_iff]
      simp
      exact Array.size_pos_iff

/-! ### Write -/
end Go.Proofs.YtcplgiimhedloaaDoor
