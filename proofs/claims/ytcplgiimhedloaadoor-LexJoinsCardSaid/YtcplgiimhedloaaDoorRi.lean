/- The walk through the reference's Int (provostref17). -/
import Derived.Test.YtcplgiimhedloaaDoorRm
set_option linter.unusedSimpArgs false
set_option linter.unusedVariables false
namespace Go.Proofs.YtcplgiimhedloaaDoor
open Go.RowKit
theorem ok_dig (B : ByteArray) (h0 : 0 < B.size) (hd : digitsB B.data.toList = true) : okDigits B.data.toList = (!(B[0] == 48) || decide (B.size = 1)) := by
  unfold okDigits
  rw [hd, len_z, head_z B h0, Bool.true_and]
  simp only [List.head?_cons]
  have : decide (B.size = 1) = !decide (1 < B.size) := by rw [Bool.eq_iff_iff]; simp; omega
  rw [this]
  have e : ((some B[0] : Option UInt8) == some 48) = (B[0] == 48) := by rw [Bool.eq_iff_iff]; simp
  rw [e]
  cases (B[0] == 48) <;> simp
set_option maxRecDepth 100000 in
set_option maxHeartbeats 2000000 in
theorem rint_any (s : ByteArray) (hs : s.size ≤ 1000000) (w : World) :
    Calls Tryd.prog 23 #[.string s] w fun e w' => e = .returned (.bool (okDigits (body s.data.toList))) ∧ w = w' := by
  obtain ⟨r, hr⟩ : ∃ r, okDigits (body s.data.toList) = r := ⟨_, rfl⟩
  rw [hr]
  -- what stands behind the sign
  have key : (0 < s.size ∧ ∃ (h : 0 < s.size) (B : ByteArray), s[0]'h = 45 ∧ s.extract 1 s.size = B ∧ B.size ≤ s.size ∧ okDigits B.data.toList = r) ∨ ((s.size = 0 ∨ ∃ h : 0 < s.size, s[0]'h ≠ 45) ∧ okDigits s.data.toList = r) := by
    by_cases h : 0 < s.size
    · have hz := head_z s h
      by_cases h45 : s[0] = 45
      · left
        refine ⟨h, h, _, h45, rfl, ?_, ?_⟩
        · have := len_z (s.extract 1 s.size)
          rw [ByteArray.size_extract]; omega
        · rw [← hr]
          congr 1
          rw [ByteArray.data_extract, Array.toList_extract, List.extract_eq_take_drop]
          unfold body below
          rw [hz, h45]
          simp
          rw [List.take_of_length_le (by rw [List.length_tail, len_z]; exact Nat.le_refl _)]
      · right
        refine ⟨Or.inr ⟨h, h45⟩, ?_⟩
        rw [← hr]
        congr 1
        unfold body below
        rw [hz]
        simp [h45]
    · right
      have : s.data.toList = [] := List.eq_nil_of_length_eq_zero (by rw [len_z]; omega)
      refine ⟨Or.inl (by omega), ?_⟩
      rw [← hr, this]; rfl
  have fin : ∀ (B : ByteArray), B.size ≤ 1000000 → okDigits B.data.toList = r → (digitsB B.data.toList = false ∧ false = r) ∨ (digitsB B.data.toList = true ∧ ∃ h : 0 < B.size, ((B[0]'h).toNat ≠ 48 ∧ true = r) ∨ ((B[0]'h).toNat = 48 ∧ decide (B.size = 1) = r)) := by
    intro B hB hr
    cases hd : digitsB B.data.toList with
    | false => left; refine ⟨rfl, ?_⟩; rw [← hr]; unfold okDigits; rw [hd]; rfl
    | true =>
      right
      have h0 : 0 < B.size := by
        rcases Nat.eq_zero_or_pos B.size with q | q
        · have : B.data.toList = [] := List.eq_nil_of_length_eq_zero (by rw [len_z]; exact q)
          rw [this] at hd; cases hd
        · exact q
      refine ⟨rfl, h0, ?_⟩
      rw [ok_dig B h0 hd] at hr
      by_cases q : B[0] = 48
      · right
        refine ⟨by rw [q]; rfl, ?_⟩
        rw [← hr, q]; simp
      · left
        refine ⟨fun e => q (UInt8.toNat_inj.1 e), ?_⟩
        rw [← hr]; simp [q]
  clear hr
  rcases key with ⟨_, h0, B, h45, he, hBs, hB⟩ | ⟨h0, hB⟩
  · have H1 := Lib.hid (fun w => digits_any B w (by unfold maxLen; omega))
    have e1 : ((s[0].toNat : Int) == 45) = true := by rw [h45]; rfl
    rcases fin B (by omega) hB with ⟨hd, hF⟩ | ⟨hd, hb0, hq⟩
    · rw [hd] at H1
      have HF := Lib.hid hF
      clear hd hF hB fin h45
      go_enter Tryd.func23, Tryd.ntmps23
      go_wp2_with fail
      refine (H1.out _).mono ?_; rintro e w1 ⟨rfl, rfl⟩
      go_wp2_with fail
      go_ret
      exact ⟨ret_b HF.out, rfl⟩
    · rw [hd] at H1
      rcases hq with ⟨q, hF⟩ | ⟨q, hF⟩
      · have HF := Lib.hid hF
        have e2 : ((B[0].toNat : Int) == 48) = false := by rw [beq_eq_false_iff_ne]; omega
        have e3 : ((B[0].toNat : Int) != 48) = true := by rw [bne, e2]; rfl
        clear hd hF hB fin h45 q
        go_enter Tryd.func23, Tryd.ntmps23
        go_wp2_with fail
        refine (H1.out _).mono ?_; rintro e w1 ⟨rfl, rfl⟩
        go_wp2_with fail
        go_ret
        exact ⟨ret_b HF.out, rfl⟩
      · have HF : Hid ((decide ((B.size : Int) = 1)) = r) := Lib.hid (by rw [← hF]; exact decide_eq_decide.2 (by omega))
        have e2 : ((B[0].toNat : Int) == 48) = true := by rw [beq_iff_eq]; omega
        have e3 : ((B[0].toNat : Int) != 48) = false := by rw [bne, e2]; rfl
        clear hd hF hB fin h45 q
        go_enter Tryd.func23, Tryd.ntmps23
        go_wp2_with fail
        refine (H1.out _).mono ?_; rintro e w1 ⟨rfl, rfl⟩
        go_wp2_with fail
        go_ret
        refine ⟨ret_b (Eq.trans ?_ HF.out), rfl⟩
        first | rfl | (rw [Bool.eq_iff_iff]; simp)
  · have H1 := Lib.hid (fun w => digits_any s w (by unfold maxLen; omega))
    rcases fin s hs hB with ⟨hd, hF⟩ | ⟨hd, hb0, hq⟩
    · rw [hd] at H1
      have HF := Lib.hid hF
      clear hd hF hB fin
      rcases h0 with h0 | ⟨h0, h45⟩
      · have hz : ¬ (0 : Int) < s.size := by omega
        clear h0
        go_enter Tryd.func23, Tryd.ntmps23
        go_wp2_with fail
        refine (H1.out _).mono ?_; rintro e w1 ⟨rfl, rfl⟩
        go_wp2_with fail
        go_ret
        exact ⟨ret_b HF.out, rfl⟩
      · have e1 : ((s[0].toNat : Int) == 45) = false := by rw [beq_eq_false_iff_ne]; intro e; exact h45 (UInt8.toNat_inj.1 (by show s[0].toNat = 45; omega))
        clear h45
        go_enter Tryd.func23, Tryd.ntmps23
        go_wp2_with fail
        refine (H1.out _).mono ?_; rintro e w1 ⟨rfl, rfl⟩
        go_wp2_with fail
        go_ret
        exact ⟨ret_b HF.out, rfl⟩
    · rw [hd] at H1
      have e1 : ((s[0].toNat : Int) == 45) = false := by
        rcases h0 with h0 | ⟨h0, h45⟩
        · omega
        · rw [beq_eq_false_iff_ne]; intro e; exact h45 (UInt8.toNat_inj.1 (by show s[0].toNat = 45; omega))
      clear h0
      rcases hq with ⟨q, hF⟩ | ⟨q, hF⟩
      · have HF := Lib.hid hF
        have e2 : ((s[0].toNat : Int) == 48) = false := by rw [beq_eq_false_iff_ne]; omega
        have e3 : ((s[0].toNat : Int) != 48) = true := by rw [bne, e2]; rfl
        clear hd hF hB fin q
        go_enter Tryd.func23, Tryd.ntmps23
        go_wp2_with fail
        refine (H1.out _).mono ?_; rintro e w1 ⟨rfl, rfl⟩
        go_wp2_with fail
        go_ret
        exact ⟨ret_b HF.out, rfl⟩
      · have HF : Hid ((decide ((s.size : Int) = 1)) = r) := Lib.hid (by rw [← hF]; exact decide_eq_decide.2 (by omega))
        have e2 : ((s[0].toNat : Int) == 48) = true := by rw [beq_iff_eq]; omega
        have e3 : ((s[0].toNat : Int) != 48) = false := by rw [bne, e2]; rfl
        clear hd hF hB fin q
        go_enter Tryd.func23, Tryd.ntmps23
        go_wp2_with fail
        refine (H1.out _).mono ?_; rintro e w1 ⟨rfl, rfl⟩
        go_wp2_with fail
        go_ret
        refine ⟨ret_b (Eq.trans ?_ HF.out), rfl⟩
        first | rfl | (rw [Bool.eq_iff_iff]; simp)
end Go.Proofs.YtcplgiimhedloaaDoor
