/- The walks through the reference's texts of bytes (provostref15: free, escape, made, scheme, port). -/
import Derived.Test.YtcocjmbhbddgiaaGreatDoorAa
set_option linter.unusedSimpArgs false
set_option linter.unusedVariables false
namespace Go.Proofs.YtcocjmbhbddgiaaGreatDoor
open Go.RowKit
theorem free_any (c : UInt8) (w : World) :
    Calls Tryz.prog 66 #[.int .u8 (c.toNat : Int)] w fun e w' => e = .returned (.bool (isFree c)) ∧ w = w' := by
  have H1 := Lib.hid (fun w => letter_any c w)
  have H2 := Lib.hid (fun w => digit_any c w)
  have H3 := Lib.hid (fun w => among_any c ⟨#[45, 46, 95, 126]⟩ (by decide) w)
  rw [show (⟨#[45, 46, 95, 126]⟩ : ByteArray).data.toList = [45, 46, 95, 126] from rfl] at H3
  obtain ⟨r, hr⟩ : ∃ r, isFree c = r := ⟨_, rfl⟩
  have HR : Hid ((isLet c || isDig c || ([45, 46, 95, 126] : List UInt8).contains c) = r) := Lib.hid hr
  rw [hr]
  clear hr
  generalize ([45, 46, 95, 126] : List UInt8).contains c = b3 at *
  generalize isLet c = b1 at *
  generalize isDig c = b2 at *
  generalize (c.toNat : Int) = n at *
  cases b1 <;> cases b2
  · go_enter Tryz.func66, Tryz.ntmps66
    go_wp2_with fail
    refine (H1.out _).mono ?_; rintro e w1 ⟨rfl, rfl⟩
    go_wp2_with fail
    refine (H2.out _).mono ?_; rintro e w1 ⟨rfl, rfl⟩
    go_wp2_with fail
    refine (H3.out _).mono ?_; rintro e w1 ⟨rfl, rfl⟩
    go_wp2_with fail
    go_ret
    exact ⟨ret1 HR.out, rfl⟩
  · go_enter Tryz.func66, Tryz.ntmps66
    go_wp2_with fail
    refine (H1.out _).mono ?_; rintro e w1 ⟨rfl, rfl⟩
    go_wp2_with fail
    refine (H2.out _).mono ?_; rintro e w1 ⟨rfl, rfl⟩
    go_wp2_with fail
    go_ret
    exact ⟨ret1 HR.out, rfl⟩
  all_goals
    go_enter Tryz.func66, Tryz.ntmps66
    go_wp2_with fail
    refine (H1.out _).mono ?_; rintro e w1 ⟨rfl, rfl⟩
    go_wp2_with fail
    go_ret
    exact ⟨ret1 HR.out, rfl⟩
theorem byte_eq (c : UInt8) (n : Nat) (h : n < 256) : ((c.toNat : Int) == (n : Int)) = (c == UInt8.ofNat n) := by
  rw [Bool.eq_iff_iff, beq_iff_eq, beq_iff_eq]
  constructor
  · intro e; apply UInt8.toNat_inj.1; rw [UInt8.toNat_ofNat']; omega
  · intro e; rw [e, UInt8.toNat_ofNat']; omega
theorem hexI_hex (c : UInt8) : (isHex c = true ∧ 0 ≤ hexI c.toNat ∧ hexI c.toNat ≤ 15) ∨ (isHex c = false ∧ hexI c.toNat < 0) := by
  unfold isHex
  by_cases h : 0 ≤ hexI c.toNat
  · left
    refine ⟨decide_eq_true h, h, ?_⟩
    unfold hexI; repeat' split
    all_goals omega
  · right
    exact ⟨decide_eq_false h, by omega⟩
theorem esc_at (s : ByteArray) (k : Nat) (h : k + 2 < s.size) : esc (s.data.toList.drop k) = (((s[k].toNat : Int) == 37) && isHex s[k + 1] && isHex s[k + 2]) := by
  rw [esc_drop, dif_pos (by rw [Array.length_toList]; exact h), show ((37 : Int)) = ((37 : Nat) : Int) from rfl, byte_eq _ 37 (by decide)]
  simp only [Array.getElem_toList]; rfl
theorem esc_far (s : ByteArray) (k : Nat) (h : ¬ k + 2 < s.size) : esc (s.data.toList.drop k) = false := by
  rw [esc_drop, dif_neg (by rw [Array.length_toList]; exact h)]
set_option maxHeartbeats 1000000 in
theorem escape_any (s : ByteArray) (k : Nat) (hs : s.size ≤ 1000000) (hk : k ≤ s.size) (w : World) :
    Calls Tryz.prog 65 #[.string s, .int .i64 k] w fun e w' => e = .returned (.bool (esc (s.data.toList.drop k))) ∧ w = w' := by
  by_cases h : k + 2 < s.size
  · have he := esc_at s k h
    generalize esc (s.data.toList.drop k) = r at *
    have HE := Lib.hid he
    have H1 := Lib.hid (fun w => value_any s[k + 1] w)
    have H2 := Lib.hid (fun w => value_any s[k + 2] w)
    have h0 : k < s.size := by omega
    have h1 : k + 1 < s.size := by omega
    have g1 := hexI_hex s[k + 1]
    have g2 := hexI_hex s[k + 2]
    clear he
    obtain ⟨v1, hv1⟩ : ∃ v, hexI s[k + 1].toNat = v := ⟨_, rfl⟩
    obtain ⟨v2, hv2⟩ : ∃ v, hexI s[k + 2].toNat = v := ⟨_, rfl⟩
    rw [hv1] at g1 H1
    rw [hv2] at g2 H2
    clear hv1 hv2
    cases hc : ((s[k].toNat : Int) == 37) with
    | false =>
      have hr : Hid (false = r) := Lib.hid (by rw [HE.out, hc]; rfl)
      clear HE g1 g2
      go_enter Tryz.func65, Tryz.ntmps65
      go_wp2_with fail
      go_ret
      exact ⟨ret1 hr.out, rfl⟩
    | true =>
      rcases g1 with ⟨a1, a2, a3⟩ | ⟨a1, a2⟩
      · rcases g2 with ⟨b1, b2, b3⟩ | ⟨b1, b2⟩
        · have hr : Hid (true = r) := Lib.hid (by rw [HE.out, hc, a1, b1]; rfl)
          clear HE a1 b1
          go_enter Tryz.func65, Tryz.ntmps65
          go_wp2_with fail
          refine (H1.out _).mono ?_; rintro e w1 ⟨rfl, rfl⟩
          go_wp2_with fail
          refine (H2.out _).mono ?_; rintro e w1 ⟨rfl, rfl⟩
          go_wp2_with fail
          go_ret
          exact ⟨ret1 hr.out, rfl⟩
        · have hr : Hid (false = r) := Lib.hid (by rw [HE.out, hc, a1, b1]; rfl)
          clear HE a1 b1
          go_enter Tryz.func65, Tryz.ntmps65
          go_wp2_with fail
          refine (H1.out _).mono ?_; rintro e w1 ⟨rfl, rfl⟩
          go_wp2_with fail
          refine (H2.out _).mono ?_; rintro e w1 ⟨rfl, rfl⟩
          go_wp2_with fail
          go_ret
          exact ⟨ret1 ((decide_eq_false (by omega)).trans hr.out), rfl⟩
      · have hr : Hid (false = r) := Lib.hid (by rw [HE.out, hc, a1]; rfl)
        clear HE a1 g2
        go_enter Tryz.func65, Tryz.ntmps65
        go_wp2_with fail
        refine (H1.out _).mono ?_; rintro e w1 ⟨rfl, rfl⟩
        go_wp2_with fail
        go_ret
        exact ⟨ret1 hr.out, rfl⟩
  · rw [esc_far s k h]
    go_enter Tryz.func65, Tryz.ntmps65
    go_wp2_with fail
    go_ret
    exact ⟨rfl, rfl⟩
/-- May a byte stand in such a text? -/
def mayB (marks : List UInt8) (c : UInt8) : Bool := isFree c || delims.contains c || marks.contains c
theorem drop_step (s : ByteArray) (p : UInt8 → Bool) (k : Nat) (h : k < s.size) :
    madeB p (s.data.toList.drop k) = if esc (s.data.toList.drop k) then madeB p (s.data.toList.drop (k + 3)) else p s[k] && madeB p (s.data.toList.drop (k + 1)) := by
  rw [madeB_drop p _ k (by rw [Array.length_toList]; exact h)]
  simp only [Array.getElem_toList]; rfl
set_option maxHeartbeats 2000000 in
theorem rmadeB_any (s marks : ByteArray) (hs : s.size ≤ 1000000) (hm : marks.size ≤ 1000000) (w : World) :
    Calls Tryz.prog 38 #[.string s, .string marks] w fun e w' => e = .returned (.bool (madeB (mayB marks.data.toList) s.data.toList)) ∧ w = w' := by
  obtain ⟨r, hr⟩ : ∃ r, madeB (mayB marks.data.toList) s.data.toList = r := ⟨_, rfl⟩
  have HR : Hid (madeB (mayB marks.data.toList) (s.data.toList.drop 0) = r) := Lib.hid (by rw [List.drop_zero]; exact hr)
  rw [hr]
  clear hr
  go_enter Tryz.func38, Tryz.ntmps38
  go_wp2_with fail
  go_loop [5] (fun i => ∃ k : Nat, k ≤ s.size ∧ i = .int .i64 k ∧ Hid (madeB (mayB marks.data.toList) (s.data.toList.drop k) = r)) (fun i => s.size - (intOf i).toNat)
  case atStart => exact ⟨0, Nat.zero_le _, rfl, HR⟩
  case round =>
    obtain ⟨k, hk, rfl, HK⟩ := hrel
    by_cases hlt : k < s.size
    · have HS := Lib.hid (drop_step s (mayB marks.data.toList) k hlt)
      have HE := Lib.hid (fun w => escape_any s k hs hk w)
      cases he : esc (s.data.toList.drop k) with
      | true =>
        have h3 : k + 2 < s.size := by
          by_cases q : k + 2 < s.size
          · exact q
          · rw [esc_far s k q] at he; cases he
        have HK2 : Hid (madeB (mayB marks.data.toList) (s.data.toList.drop (k + 3)) = r) := Lib.hid (by rw [← HK.out, HS.out, he]; rfl)
        rw [he] at HE
        clear he
        go_wp2_with fail
        refine (HE.out _).mono ?_; rintro e w1 ⟨rfl, rfl⟩
        go_wp2_with fail
        go_round
        case rel => exact ⟨k + 3, by omega, by go_num, HK2⟩
        case measure => simp [intOf]; omega
      | false =>
        have H1 := Lib.hid (fun w => free_any s[k] w)
        have H2 := Lib.hid (fun w => among_any s[k] ⟨#[33, 36, 38, 39, 40, 41, 42, 43, 44, 59, 61]⟩ (by decide) w)
        have H3 := Lib.hid (fun w => among_any s[k] marks (by unfold maxLen; omega) w)
        rw [show (⟨#[33, 36, 38, 39, 40, 41, 42, 43, 44, 59, 61]⟩ : ByteArray).data.toList = delims from rfl] at H2
        have hst : madeB (mayB marks.data.toList) (s.data.toList.drop k) = (mayB marks.data.toList s[k] && madeB (mayB marks.data.toList) (s.data.toList.drop (k + 1))) := by rw [HS.out, he]; rfl
        unfold mayB at hst
        have hst2 : r = ((isFree s[k] || delims.contains s[k] || marks.data.toList.contains s[k]) && madeB (mayB marks.data.toList) (s.data.toList.drop (k + 1))) := by rw [← HK.out]; exact hst
        rw [he] at HE
        clear he hst HS
        generalize isFree s[k] = b1 at *
        generalize delims.contains s[k] = b2 at *
        generalize marks.data.toList.contains s[k] = b3 at *
        cases b1 <;> cases b2 <;> cases b3
        · have HF : Hid (false = r) := Lib.hid (by rw [hst2]; rfl)
          clear hst2
          go_wp2_with fail
          refine (HE.out _).mono ?_; rintro e w1 ⟨rfl, rfl⟩
          go_wp2_with fail
          refine (H1.out _).mono ?_; rintro e w1 ⟨rfl, rfl⟩
          go_wp2_with fail
          refine (H2.out _).mono ?_; rintro e w1 ⟨rfl, rfl⟩
          go_wp2_with fail
          refine (H3.out _).mono ?_; rintro e w1 ⟨rfl, rfl⟩
          go_wp2_with fail
          go_ret
          exact ⟨ret1 HF.out, rfl⟩
        all_goals
          have HK2 : Hid (madeB (mayB marks.data.toList) (s.data.toList.drop (k + 1)) = r) := Lib.hid (by rw [hst2]; rfl)
          clear hst2
          go_wp2_with fail
          refine (HE.out _).mono ?_; rintro e w1 ⟨rfl, rfl⟩
          go_wp2_with fail
          refine (H1.out _).mono ?_; rintro e w1 ⟨rfl, rfl⟩
          go_wp2_with fail
          (try ((with_reducible refine (H2.out _).mono ?_); rintro e w1 ⟨rfl, rfl⟩; go_wp2_with fail))
          (try ((with_reducible refine (H3.out _).mono ?_); rintro e w1 ⟨rfl, rfl⟩; go_wp2_with fail))
          go_round
          case rel => exact ⟨k + 1, by omega, by go_num, HK2⟩
          case measure => simp [intOf]; omega
    · have HF : Hid (true = r) := Lib.hid (by
        have := HK.out
        rw [List.drop_of_length_le (by rw [Array.length_toList]; exact Nat.le_of_not_lt hlt)] at this
        exact this)
      go_wp2_with fail
      go_ret
      exact ⟨ret1 HF.out, rfl⟩
end Go.Proofs.YtcocjmbhbddgiaaGreatDoor
