/- The walks through the reference's Name (provostref03), mark and Int (provostref17). -/
import Derived.Test.YteapenemnnhonaaDoorPn
set_option linter.unusedSimpArgs false
set_option linter.unusedVariables false
namespace Go.Proofs.YteapenemnnhonaaDoor
open Go.RowKit
def letC (c : UInt8) : Bool := nameC c && !isDig c
theorem name_dig (c : UInt8) : nameC c = (letC c || isDig c) := by
  have := all256' (f := fun c => nameC c == (letC c || isDig c)) (by decide +kernel) c
  simpa using this
def nameAt (l : List UInt8) (k : Nat) : Bool := if k = 0 then nameB l else (l.drop k).all nameC
theorem nameAt_step (s : ByteArray) (k : Nat) (h : k < s.size) : nameAt s.data.toList k = ((letC s[k] || (!decide (k = 0) && isDig s[k])) && nameAt s.data.toList (k + 1)) := by
  have hd := drop_at s k h
  unfold nameAt
  by_cases hk : k = 0
  · subst hk
    rw [List.drop_zero] at hd
    rw [if_pos rfl, if_neg (by omega), decide_eq_true rfl, hd]
    show (!isDig s[0] && (s[0] :: _).all nameC) = _
    rw [List.all_cons, name_dig, List.drop_succ_cons, List.drop_zero]
    unfold letC
    cases nameC s[0] <;> cases isDig s[0] <;> simp
  · rw [if_neg hk, if_neg (by omega), hd, List.all_cons, decide_eq_false hk, name_dig]; rfl
theorem nameAt_end (s : ByteArray) : nameAt s.data.toList s.size = decide (0 < s.size) := by
  unfold nameAt
  by_cases h : s.size = 0
  · have : s.data.toList = [] := List.eq_nil_of_length_eq_zero (by rw [len_z]; exact h)
    rw [if_pos h, this, h]; rfl
  · rw [if_neg h, List.drop_of_length_le (by rw [len_z]; exact Nat.le_refl _), decide_eq_true (by omega)]; rfl
theorem nm_cls (c : UInt8) : (c.toNat < 48 ∧ letC c = false ∧ isDig c = false) ∨ (48 ≤ c.toNat ∧ c.toNat ≤ 57 ∧ letC c = false ∧ isDig c = true) ∨ (58 ≤ c.toNat ∧ c.toNat ≤ 64 ∧ letC c = false ∧ isDig c = false) ∨ (65 ≤ c.toNat ∧ c.toNat ≤ 90 ∧ letC c = true ∧ isDig c = false)
    ∨ (91 ≤ c.toNat ∧ c.toNat ≤ 96 ∧ c.toNat ≠ 95 ∧ letC c = false ∧ isDig c = false) ∨ (c.toNat = 95 ∧ letC c = true ∧ isDig c = false) ∨ (97 ≤ c.toNat ∧ c.toNat ≤ 122 ∧ letC c = true ∧ isDig c = false) ∨ (123 ≤ c.toNat ∧ letC c = false ∧ isDig c = false) := by
  have g := all256' (f := fun c => (decide (c.toNat < 48) && !letC c && !isDig c) || (decide (48 ≤ c.toNat) && decide (c.toNat ≤ 57) && !letC c && isDig c) || (decide (58 ≤ c.toNat) && decide (c.toNat ≤ 64) && !letC c && !isDig c) || (decide (65 ≤ c.toNat) && decide (c.toNat ≤ 90) && letC c && !isDig c)
    || (decide (91 ≤ c.toNat) && decide (c.toNat ≤ 96) && !(c.toNat == 95) && !letC c && !isDig c) || ((c.toNat == 95) && letC c && !isDig c) || (decide (97 ≤ c.toNat) && decide (c.toNat ≤ 122) && letC c && !isDig c) || (decide (123 ≤ c.toNat) && !letC c && !isDig c)) (by decide +kernel) c
  simp only [Bool.or_eq_true, Bool.and_eq_true, decide_eq_true_eq, Bool.not_eq_true', beq_iff_eq, beq_eq_false_iff_ne] at g
  rcases g with ((((((g | g) | g) | g) | g) | g) | g) | g
  · left; exact ⟨g.1.1, g.1.2, g.2⟩
  · right; left; exact ⟨g.1.1.1, g.1.1.2, g.1.2, g.2⟩
  · right; right; left; exact ⟨g.1.1.1, g.1.1.2, g.1.2, g.2⟩
  · right; right; right; left; exact ⟨g.1.1.1, g.1.1.2, g.1.2, g.2⟩
  · right; right; right; right; left; exact ⟨g.1.1.1.1, g.1.1.1.2, g.1.1.2, g.1.2, g.2⟩
  · right; right; right; right; right; left; exact ⟨g.1.1, g.1.2, g.2⟩
  · right; right; right; right; right; right; left; exact ⟨g.1.1.1, g.1.1.2, g.1.2, g.2⟩
  · right; right; right; right; right; right; right; exact ⟨g.1.1, g.1.2, g.2⟩
set_option maxRecDepth 100000 in
set_option maxHeartbeats 4000000 in
theorem rname_any (s : ByteArray) (hs : s.size ≤ 1000000) (w : World) :
    Calls Tryd.prog 57 #[.string s] w fun e w' => e = .returned (.bool (nameB s.data.toList)) ∧ w = w' := by
  obtain ⟨r, hr⟩ : ∃ r, nameB s.data.toList = r := ⟨_, rfl⟩
  have HR : Hid (nameAt s.data.toList 0 = r) := Lib.hid hr
  rw [hr]
  clear hr
  go_enter Tryd.func57, Tryd.ntmps57
  go_wp2_with fail
  go_loop [3] (fun i => ∃ k : Nat, k ≤ s.size ∧ i = .int .i64 k ∧ Hid (nameAt s.data.toList k = r)) (fun i => s.size - (intOf i).toNat)
  case atStart => exact ⟨0, Nat.zero_le _, rfl, HR⟩
  case round =>
    obtain ⟨k, hk, rfl, HK⟩ := hrel
    by_cases hlt : k < s.size
    · have hst := nameAt_step s k hlt
      rw [HK.out] at hst
      have hcls := nm_cls s[k]
      have hc8 : s[k].toNat < 256 := UInt8.toNat_lt _
      clear HK
      rcases hcls with ⟨a1, l1, d1⟩ | ⟨a1, a2, l1, d1⟩ | ⟨a1, a2, l1, d1⟩ | ⟨a1, a2, l1, d1⟩ | ⟨a1, a2, a3, l1, d1⟩ | ⟨a1, l1, d1⟩ | ⟨a1, a2, l1, d1⟩ | ⟨a1, l1, d1⟩
      all_goals rw [l1, d1] at hst; clear l1 d1
      · have HF : Hid (false = r) := Lib.hid (by rw [hst]; simp)
        have b1 : ((s[k].toNat : Int) == 95) = false := by rw [beq_eq_false_iff_ne]; omega
        have b2 : ¬ (97 : Int) ≤ s[k].toNat := by omega
        have b3 : ¬ (65 : Int) ≤ s[k].toNat := by omega
        have b4 : ¬ (48 : Int) ≤ s[k].toNat := by omega
        clear hst
        go_wp2_with fail
        go_ret
        exact ⟨ret_b HF.out, rfl⟩
      · have b1 : ((s[k].toNat : Int) == 95) = false := by rw [beq_eq_false_iff_ne]; omega
        have b2 : ¬ (97 : Int) ≤ s[k].toNat := by omega
        have b3 : ¬ (65 : Int) ≤ s[k].toNat := by omega
        by_cases hk0 : k = 0
        · have HF : Hid (false = r) := Lib.hid (by rw [hst, decide_eq_true hk0]; simp)
          subst hk0
          clear hst
          go_wp2_with fail
          go_ret
          exact ⟨ret_b HF.out, rfl⟩
        · have HK2 : Hid (nameAt s.data.toList (k + 1) = r) := Lib.hid (by rw [hst, decide_eq_false hk0]; simp)
          have hkb : ((k : Int) == 0) = false := by rw [beq_eq_false_iff_ne]; omega
          clear hst hk0
          go_wp2_with fail
          go_round
          case rel => exact ⟨k + 1, by omega, by go_num, HK2⟩
          case measure => simp [intOf]; omega
      · have HF : Hid (false = r) := Lib.hid (by rw [hst]; simp)
        have b1 : ((s[k].toNat : Int) == 95) = false := by rw [beq_eq_false_iff_ne]; omega
        have b2 : ¬ (97 : Int) ≤ s[k].toNat := by omega
        have b3 : ¬ (65 : Int) ≤ s[k].toNat := by omega
        have b4 : ¬ (s[k].toNat : Int) ≤ 57 := by omega
        clear hst
        go_wp2_with fail
        go_ret
        exact ⟨ret_b HF.out, rfl⟩
      · have HK2 : Hid (nameAt s.data.toList (k + 1) = r) := Lib.hid (by rw [hst]; simp)
        have b2 : ¬ (97 : Int) ≤ s[k].toNat := by omega
        have b3 : ¬ (s[k].toNat : Int) ≤ 57 := by omega
        clear hst
        go_wp2_with fail
        go_round
        case rel => exact ⟨k + 1, by omega, by go_num, HK2⟩
        case measure => simp [intOf]; omega
      · have HF : Hid (false = r) := Lib.hid (by rw [hst]; simp)
        have b1 : ((s[k].toNat : Int) == 95) = false := by rw [beq_eq_false_iff_ne]; omega
        have b2 : ¬ (97 : Int) ≤ s[k].toNat := by omega
        have b3 : ¬ (s[k].toNat : Int) ≤ 90 := by omega
        have b4 : ¬ (s[k].toNat : Int) ≤ 57 := by omega
        clear hst a3
        go_wp2_with fail
        go_ret
        exact ⟨ret_b HF.out, rfl⟩
      · have HK2 : Hid (nameAt s.data.toList (k + 1) = r) := Lib.hid (by rw [hst]; simp)
        have b1 : ((s[k].toNat : Int) == 95) = true := by rw [beq_iff_eq]; omega
        have b2 : ¬ (97 : Int) ≤ s[k].toNat := by omega
        have b3 : ¬ (s[k].toNat : Int) ≤ 90 := by omega
        have b4 : ¬ (s[k].toNat : Int) ≤ 57 := by omega
        clear hst a1
        go_wp2_with fail
        go_round
        case rel => exact ⟨k + 1, by omega, by go_num, HK2⟩
        case measure => simp [intOf]; omega
      · have HK2 : Hid (nameAt s.data.toList (k + 1) = r) := Lib.hid (by rw [hst]; simp)
        have b3 : ¬ (s[k].toNat : Int) ≤ 57 := by omega
        clear hst
        go_wp2_with fail
        go_round
        case rel => exact ⟨k + 1, by omega, by go_num, HK2⟩
        case measure => simp [intOf]; omega
      · have HF : Hid (false = r) := Lib.hid (by rw [hst]; simp)
        have b1 : ((s[k].toNat : Int) == 95) = false := by rw [beq_eq_false_iff_ne]; omega
        have b2 : ¬ (s[k].toNat : Int) ≤ 122 := by omega
        have b3 : ¬ (s[k].toNat : Int) ≤ 90 := by omega
        have b4 : ¬ (s[k].toNat : Int) ≤ 57 := by omega
        clear hst
        go_wp2_with fail
        go_ret
        exact ⟨ret_b HF.out, rfl⟩
    · have HF : Hid (decide (0 < s.size) = r) := Lib.hid (by
        have := HK.out
        rw [show k = s.size by omega, nameAt_end] at this
        exact this)
      go_wp2_with fail
      go_ret
      refine ⟨ret_b (Eq.trans ?_ HF.out), rfl⟩
      simp
end Go.Proofs.YteapenemnnhonaaDoor
