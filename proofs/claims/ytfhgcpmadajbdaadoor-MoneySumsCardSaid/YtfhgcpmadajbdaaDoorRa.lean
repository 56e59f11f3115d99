/- The walks through the reference's digits: what digits tell, and the digits of a number (provostref02: Digits, Write, Small), and whether a number is small (whole). -/
import Derived.Test.YtfhgcpmadajbdaaDoorRows
import Derived.Test.YtfhgcpmadajbdaaDoorRp
import Derived.WalkKit
import Derived.WalkSpells
import Derived.Handy
import Derived.Lib.Hide
import Derived.Deep.Light
import Derived.Lib.ItoaLen
set_option linter.unusedSimpArgs false
set_option linter.unusedVariables false
namespace Go.Proofs.YtfhgcpmadajbdaaDoor
open Go.RowKit

theorem retS {a c : List UInt8} (h : a = c) : Ending.returned (.string ⟨a.toArray⟩) = .returned (.string ⟨c.toArray⟩) := by rw [h]
theorem take_snoc (s : ByteArray) (k : Nat) (h : k < s.size) : s.data.toList.take (k + 1) = s.data.toList.take k ++ [s[k]] := by
  rw [List.take_succ_eq_append_getElem (by simpa using h)]; rfl
theorem all_take_snoc (s : ByteArray) (k : Nat) (h : k < s.size) : (s.data.toList.take (k + 1)).all isDig = ((s.data.toList.take k).all isDig && isDig s[k]) := by
  rw [take_snoc s k h]; simp
theorem all_of_take (l : List UInt8) (k : Nat) (h : (l.take k).all isDig = false) : l.all isDig = false := by
  cases hl : l.all isDig with
  | false => rfl
  | true =>
    rw [List.all_eq_true] at hl
    have : (l.take k).all isDig = true := List.all_eq_true.2 fun x hx => hl x (List.mem_of_mem_take hx)
    rw [this] at h; cases h

theorem dig_of (c : UInt8) : isDig c = true ↔ 48 ≤ (c.toNat : Int) ∧ (c.toNat : Int) ≤ 57 := by
  unfold isDig; rw [decide_eq_true_eq]; omega
theorem dig_not {c : UInt8} (h : ¬ isDig c = true) : (c.toNat : Int) < 48 ∨ 57 < (c.toNat : Int) := by
  rw [dig_of] at h; omega

set_option maxHeartbeats 400000 in
theorem digits_any (s : ByteArray) (w : World) (hs : s.size ≤ maxLen) :
    Calls Tryd.prog 44 #[.string s] w fun e w' => e = .returned (.bool (digitsB s.data.toList)) ∧ w = w' := by
  unfold maxLen at hs
  go_enter Tryd.func44, Tryd.ntmps44
  go_wp2
  go_loop [3] (fun i => ∃ k : Nat, k ≤ s.size ∧ i = .int .i64 k ∧ (s.data.toList.take k).all isDig = true) (fun i => s.size - (intOf i).toNat)
  case atStart => exact ⟨0, Nat.zero_le _, rfl, rfl⟩
  case round =>
    obtain ⟨k, hk, rfl, hall⟩ := hrel
    have HA := Lib.hid hall
    clear hall
    by_cases hlt : k < s.size
    · have HT := Lib.hid (all_take_snoc s k hlt)
      by_cases hd : isDig s[k] = true
      · have HD := Lib.hid hd
        obtain ⟨d1, d2⟩ := (dig_of _).1 hd
        clear hd
        go_wp2
        go_round
        case rel => exact ⟨k + 1, by omega, by go_num, by rw [HT.out, HA.out, HD.out]; rfl⟩
        case measure => simp [intOf]; omega
      · have hno : s.data.toList.all isDig = false := all_of_take _ (k + 1) (by rw [HT.out]; simp [hd])
        have HN : Hid (digitsB s.data.toList = false) := by unfold digitsB; rw [hno]; rfl
        have hd2 := dig_not hd
        clear hno hd
        rcases hd2 with d1 | d1
        · go_wp2
          go_ret
          exact ⟨ret1 HN.out.symm, rfl⟩
        · have d0 : 48 ≤ (s[k].toNat : Int) := by omega
          go_wp2
          go_ret
          exact ⟨ret1 HN.out.symm, rfl⟩
    · go_wp2
      go_ret
      refine ⟨ret1 ?_, rfl⟩
      have h1 := HA.out
      rw [List.take_of_length_le (by simp; omega)] at h1
      unfold digitsB
      rw [h1, Bool.eq_iff_iff]
      simp
      exact Array.size_pos_iff

/-! ### Write -/
theorem itoa_small (n : Int) (h0 : 0 ≤ n) (h1 : n < 10) : Lib.itoa n = [UInt8.ofNat (48 + n.toNat)] := by
  obtain ⟨u, rfl⟩ := Int.eq_ofNat_of_zero_le h0
  rw [Lib.itoa_nonneg, Lib.decDigits_one (by omega)]; rfl
theorem itoa_minus (n : Int) (h : n < 0) : Lib.itoa n = 45 :: Lib.itoa (-n) := by
  obtain ⟨u, hu⟩ := Int.eq_ofNat_of_zero_le (show 0 ≤ -n by omega)
  rw [hu, Lib.itoa_nonneg, show n = -(u : Int) by omega, Lib.itoa_neg _ (by omega)]
theorem itoa_pos (n : Int) (h : 10 ≤ n) : Lib.itoa n = Lib.itoa (n / 10) ++ Lib.itoa (n % 10) := by
  obtain ⟨u, rfl⟩ := Int.eq_ofNat_of_zero_le (show 0 ≤ n by omega)
  rw [show (u : Int) / 10 = ((u / 10 : Nat) : Int) by omega, show (u : Int) % 10 = ((u % 10 : Nat) : Int) by omega, Lib.itoa_nonneg, Lib.itoa_nonneg, Lib.itoa_nonneg, Lib.decDigits, dif_neg (by omega), Lib.decDigits_one (Nat.mod_lt _ (by decide))]
theorem itoa_neg10 (n d : Int) (h : n ≤ -10) (hd : d = (-n) % 10) : Lib.itoa n = Lib.itoa (-((-n) / 10)) ++ Lib.itoa d := by
  rw [itoa_minus n (by omega), itoa_minus (-((-n) / 10)) (by omega), hd, Int.neg_neg, List.cons_append, ← itoa_pos (-n) (by omega)]
theorem tdiv10 (n : Int) (h : n < 0) : n.tdiv 10 = -((-n) / 10) := by
  rw [← Int.tdiv_eq_ediv_of_nonneg (by omega), Int.neg_tdiv, Int.neg_neg]
theorem tmod10 (n : Int) (h : n < 0) : n.tmod 10 = -((-n) % 10) := by
  rw [← Int.tmod_eq_emod_of_nonneg (by omega), Int.neg_tmod, Int.neg_neg]

theorem one_digit_fin : ∀ i : Fin 10, (⟨#[48, 49, 50, 51, 52, 53, 54, 55, 56, 57]⟩ : ByteArray).extract i.val (i.val + 1) = ⟨[UInt8.ofNat (48 + i.val)].toArray⟩ := by decide +kernel
theorem one_digit (n : Int) (h0 : 0 ≤ n) (h1 : n < 10) : (⟨#[48, 49, 50, 51, 52, 53, 54, 55, 56, 57]⟩ : ByteArray).extract n.toNat (n + 1).toNat = ⟨(Lib.itoa n).toArray⟩ := by
  rw [itoa_small n h0 h1, show (n + 1).toNat = n.toNat + 1 by omega]
  exact one_digit_fin ⟨n.toNat, by omega⟩
theorem retB {a c : ByteArray} (h : a = c) : Ending.returned (.string a) = .returned (.string c) := by rw [h]
theorem len_itoa {n : Int} (h : R n) : (Lib.itoa n).length ≤ 21 := Lib.itoa_length_le n h.1 h.2
theorem cat (a b : List UInt8) : (⟨a.toArray⟩ : ByteArray) ++ ⟨b.toArray⟩ = ⟨(a ++ b).toArray⟩ := by
  apply ByteArray.ext; simp

set_option maxHeartbeats 400000 in
theorem rwrite_step (m : Nat) (ih : ∀ n : Int, n.natAbs < m → R n → ∀ w, Calls Tryd.prog 55 #[.int .i64 n] w fun e w' => e = .returned (.string ⟨(Lib.itoa n).toArray⟩) ∧ w = w')
    (ih1 : ∀ n : Int, 0 ≤ n → n < 10 → ∀ w, Calls Tryd.prog 55 #[.int .i64 n] w fun e w' => e = .returned (.string ⟨(Lib.itoa n).toArray⟩) ∧ w = w')
    (n : Int) (hm : n.natAbs = m) (hr : R n) (hn : n < 0 ∨ 10 ≤ n) (w : World) :
    Calls Tryd.prog 55 #[.int .i64 n] w fun e w' => e = .returned (.string ⟨(Lib.itoa n).toArray⟩) ∧ w = w' := by
  obtain ⟨r1, r2⟩ := hr
  have IH := Lib.hid ih
  have IH1 := Lib.hid ih1
  clear ih ih1
  rcases hn with h0 | h1
  · by_cases h1 : -10 < n
    · have HF := Lib.hid (itoa_minus n h0)
      have l1 := len_itoa (n := -n) (by unfold R; omega)
      have HC := Lib.hid (fun w => IH1.out (-n) (by omega) (by omega) w)
      clear hm
      go_enter Tryd.func55, Tryd.ntmps55
      go_wp2_with fail
      refine (HC.out _).mono ?_; rintro e w1 ⟨rfl, rfl⟩
      go_wp2_with fail
      go_ret
      refine ⟨retB ?_, rfl⟩
      rw [HF.out]
      exact cat [45] _
    · have HC := Lib.hid (fun w => IH.out (n.tdiv 10) (by rw [tdiv10 n h0]; omega) (by rw [tdiv10 n h0]; unfold R; omega) w)
      have e1 := tdiv10 n h0
      have e2 := tmod10 n h0
      have HF := Lib.hid (itoa_neg10 n ((-n) % 10) (by omega) rfl)
      have HD := Lib.hid (fun w => IH1.out ((-n) % 10) (by omega) (by omega) w)
      have b0 : (0 : Int) ≤ (-n) % 10 := by omega
      have b1 : (-n) % 10 < 10 := by omega
      have b2 : (0 : Int) ≤ (-n) / 10 := by omega
      have b3 : (-n) / 10 ≤ 922337203685477580 := by omega
      rw [e1] at HC
      clear hm
      have h1' : n ≤ -10 := by omega
      clear h1
      generalize hq : (-n) / 10 = q at *
      generalize hd : (-n) % 10 = d at *
      clear hq hd
      have l1 := len_itoa (n := -q) (by unfold R; omega)
      have l2 := len_itoa (n := d) (by unfold R; omega)
      have hd0 : d = 0 ∨ 0 < d := by omega
      rcases hd0 with rfl | hd0
      all_goals
        go_enter Tryd.func55, Tryd.ntmps55
        go_wp2_with fail
        refine (HC.out _).mono ?_; rintro e w1 ⟨rfl, rfl⟩
        go_wp2_with fail
        refine (HD.out _).mono ?_; rintro e w1 ⟨rfl, rfl⟩
        go_wp2_with fail
        go_ret
        refine ⟨retB ?_, rfl⟩
        rw [HF.out]
        exact cat _ _
  · have HF := Lib.hid (itoa_pos n (by omega))
    have HC := Lib.hid (fun w => IH.out (n / 10) (by omega) (by unfold R; omega) w)
    have HD := Lib.hid (fun w => IH1.out (n % 10) (by omega) (by omega) w)
    have l1 := len_itoa (n := n / 10) (by unfold R; omega)
    have l2 := len_itoa (n := n % 10) (by unfold R; omega)
    clear hm
    go_enter Tryd.func55, Tryd.ntmps55
    go_wp2_with fail
    refine (HC.out _).mono ?_; rintro e w1 ⟨rfl, rfl⟩
    go_wp2_with fail
    refine (HD.out _).mono ?_; rintro e w1 ⟨rfl, rfl⟩
    go_wp2_with fail
    go_ret
    refine ⟨retB ?_, rfl⟩
    rw [HF.out]
    exact cat _ _
set_option maxHeartbeats 400000 in
theorem rwrite_small (n : Int) (h0 : 0 ≤ n) (h1 : n < 10) (w : World) :
    Calls Tryd.prog 55 #[.int .i64 n] w fun e w' => e = .returned (.string ⟨(Lib.itoa n).toArray⟩) ∧ w = w' := by
  have HF := Lib.hid (one_digit n h0 h1)
  go_enter Tryd.func55, Tryd.ntmps55
  go_wp2_with fail
  go_ret
  exact ⟨retB HF.out, rfl⟩
theorem rwrite_any (n : Int) (hr : R n) (w : World) :
    Calls Tryd.prog 55 #[.int .i64 n] w fun e w' => e = .returned (.string ⟨(Lib.itoa n).toArray⟩) ∧ w = w' := by
  suffices H : ∀ m : Nat, ∀ n : Int, n.natAbs ≤ m → R n → ∀ w, Calls Tryd.prog 55 #[.int .i64 n] w fun e w' => e = .returned (.string ⟨(Lib.itoa n).toArray⟩) ∧ w = w' from H _ n (Nat.le_refl _) hr w
  intro m
  induction m with
  | zero => intro n hn _ w; exact rwrite_small n (by omega) (by omega) w
  | succ m ih =>
    intro n hn hr w
    by_cases h : 0 ≤ n ∧ n < 10
    · exact rwrite_small n h.1 h.2 w
    · exact rwrite_step n.natAbs (fun k hk hkr w => ih k (by omega) hkr w) (fun n h0 h1 w => rwrite_small n h0 h1 w) n rfl hr (by omega) w
end Go.Proofs.YtfhgcpmadajbdaaDoor
