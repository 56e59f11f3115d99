/- Walks of this proof, several texts joined into one: Wa, Wm, Ra, Rb. -/
import Derived.Test.YtglhanblbojkhaaGreatDoorRows
import Derived.Test.YtglhanblbojkhaaGreatDoorWp
import Derived.WalkKit
import Derived.WalkSpells
import Derived.Handy
import Derived.Lib.Hide
import Derived.Deep.Light
import Derived.Test.YtglhanblbojkhaaGreatDoorWb
import Derived.Test.YtglhanblbojkhaaGreatDoorRq
import Derived.Lib.ItoaLen
import Derived.Lib.IndexBytes
set_option linter.unusedSimpArgs false
set_option linter.unusedVariables false
namespace Go.Proofs.YtglhanblbojkhaaGreatDoor
open Go.RowKit

set_option maxHeartbeats 400000 in
theorem adds_any (a b : Int) (ha : R a) (hb : R b) (w : World) :
    Calls Tryz.prog 100 #[.int .i64 a, .int .i64 b] w fun e w' => e = .returned (.bool (inR (a + b))) ∧ w = w' := by
  obtain ⟨ha, ha'⟩ := ha
  obtain ⟨hb, hb'⟩ := hb
  go_enter Tryz.func100, Tryz.ntmps100
  go_wp2
  all_goals
    go_ret
    refine ⟨ret1 ?_, rfl⟩
    go_light
    simp only [inR, wrap64] at *
    rw [Bool.eq_iff_iff]
    (try simp at *) <;> omega
end Go.Proofs.YtglhanblbojkhaaGreatDoor

set_option linter.unusedSimpArgs false
set_option linter.unusedVariables false
namespace Go.Proofs.YtglhanblbojkhaaGreatDoor
open Go.RowKit
set_option maxHeartbeats 400000 in
theorem muls_a0 (a b : Int) (ha : R a) (hb : R b) (h : a = 0) (w : World) :
    Calls Tryz.prog 99 #[.int .i64 a, .int .i64 b] w fun e w' => e = .returned (.bool (inR (a * b))) ∧ w = w' := by
  obtain ⟨ha1, ha2⟩ := ha
  obtain ⟨hb1, hb2⟩ := hb
  subst h
  go_enter Tryz.func99, Tryz.ntmps99
  go_wp2
  all_goals
    go_ret
    refine ⟨ret1 ?_, rfl⟩
    go_light
    simp [inR]
set_option maxHeartbeats 400000 in
theorem muls_b0 (a b : Int) (ha : R a) (hb : R b) (h : b = 0) (w : World) :
    Calls Tryz.prog 99 #[.int .i64 a, .int .i64 b] w fun e w' => e = .returned (.bool (inR (a * b))) ∧ w = w' := by
  obtain ⟨ha1, ha2⟩ := ha
  obtain ⟨hb1, hb2⟩ := hb
  subst h
  go_enter Tryz.func99, Tryz.ntmps99
  go_wp2
  all_goals
    go_ret
    refine ⟨ret1 ?_, rfl⟩
    go_light
    simp [inR]
set_option maxHeartbeats 400000 in
theorem muls_pp (a b : Int) (ha : R a) (hb : R b) (h : 0 < a) (h2 : 0 < b) (w : World) :
    Calls Tryz.prog 99 #[.int .i64 a, .int .i64 b] w fun e w' => e = .returned (.bool (inR (a * b))) ∧ w = w' := by
  obtain ⟨ha1, ha2⟩ := ha
  obtain ⟨hb1, hb2⟩ := hb
  have e1 : (a == 0) = false := beq_eq_false_iff_ne.2 (by omega)
  have e2 : (b == 0) = false := beq_eq_false_iff_ne.2 (by omega)
  go_enter Tryz.func99, Tryz.ntmps99
  go_wp2
  all_goals
    go_ret
    refine ⟨ret1 ?_, rfl⟩
    go_light
    exact (mul_pp h h2).symm
set_option maxHeartbeats 400000 in
theorem muls_nn (a b : Int) (ha : R a) (hb : R b) (h : a < 0) (h2 : b < 0) (w : World) :
    Calls Tryz.prog 99 #[.int .i64 a, .int .i64 b] w fun e w' => e = .returned (.bool (inR (a * b))) ∧ w = w' := by
  obtain ⟨ha1, ha2⟩ := ha
  obtain ⟨hb1, hb2⟩ := hb
  have e1 : (a == 0) = false := beq_eq_false_iff_ne.2 (by omega)
  have e2 : (b == 0) = false := beq_eq_false_iff_ne.2 (by omega)
  go_enter Tryz.func99, Tryz.ntmps99
  go_wp2
  all_goals
    go_ret
    refine ⟨ret1 ?_, rfl⟩
    go_light
    first | exact (mul_min h2).symm | exact (mul_min' h).symm | exact mul_nn_test h h2 (by assumption) (by assumption)
set_option maxHeartbeats 400000 in
theorem muls_pn (a b : Int) (ha : R a) (hb : R b) (h : 0 < a) (h2 : b < 0) (w : World) :
    Calls Tryz.prog 99 #[.int .i64 a, .int .i64 b] w fun e w' => e = .returned (.bool (inR (a * b))) ∧ w = w' := by
  obtain ⟨ha1, ha2⟩ := ha
  obtain ⟨hb1, hb2⟩ := hb
  have e1 : (a == 0) = false := beq_eq_false_iff_ne.2 (by omega)
  have e2 : (b == 0) = false := beq_eq_false_iff_ne.2 (by omega)
  go_enter Tryz.func99, Tryz.ntmps99
  go_wp2
  all_goals
    go_ret
    refine ⟨ret1 ?_, rfl⟩
    go_light
    exact mul_pn_test h h2
set_option maxHeartbeats 400000 in
theorem muls_np (a b : Int) (ha : R a) (hb : R b) (h : a < 0) (h2 : 0 < b) (w : World) :
    Calls Tryz.prog 99 #[.int .i64 a, .int .i64 b] w fun e w' => e = .returned (.bool (inR (a * b))) ∧ w = w' := by
  obtain ⟨ha1, ha2⟩ := ha
  obtain ⟨hb1, hb2⟩ := hb
  have e1 : (a == 0) = false := beq_eq_false_iff_ne.2 (by omega)
  have e2 : (b == 0) = false := beq_eq_false_iff_ne.2 (by omega)
  go_enter Tryz.func99, Tryz.ntmps99
  go_wp2
  all_goals
    go_ret
    refine ⟨ret1 ?_, rfl⟩
    go_light
    exact mul_np_test h h2
theorem muls_any (a b : Int) (ha : R a) (hb : R b) (w : World) :
    Calls Tryz.prog 99 #[.int .i64 a, .int .i64 b] w fun e w' => e = .returned (.bool (inR (a * b))) ∧ w = w' := by
  rcases Int.lt_trichotomy a 0 with h | h | h
  · rcases Int.lt_trichotomy b 0 with h2 | h2 | h2
    · exact muls_nn a b ha hb h h2 w
    · exact muls_b0 a b ha hb h2 w
    · exact muls_np a b ha hb h h2 w
  · exact muls_a0 a b ha hb h w
  · rcases Int.lt_trichotomy b 0 with h2 | h2 | h2
    · exact muls_pn a b ha hb h h2 w
    · exact muls_b0 a b ha hb h2 w
    · exact muls_pp a b ha hb h h2 w
end Go.Proofs.YtglhanblbojkhaaGreatDoor

set_option linter.unusedSimpArgs false
set_option linter.unusedVariables false
namespace Go.Proofs.YtglhanblbojkhaaGreatDoor
open Go.RowKit
set_option maxHeartbeats 400000 in
theorem digits_any (s : ByteArray) (w : World) (hs : s.size ≤ maxLen) :
    Calls Tryz.prog 98 #[.string s] w fun e w' => e = .returned (.bool (digitsB s.data.toList)) ∧ w = w' := by
  unfold maxLen at hs
  go_enter Tryz.func98, Tryz.ntmps98
  go_wp2
  go_loop [3] (fun i => ∃ k : Nat, k ≤ s.size ∧ i = .int .i64 k ∧ (s.data.toList.take k).all isDig = true) (fun i => s.size - (intOf i).toNat)
  case atStart => exact ⟨0, Nat.zero_le _, rfl, rfl⟩
  case round =>
    obtain ⟨k, hk, rfl, hall⟩ := hrel
    have HA := Lib.hid hall
    clear hall
    by_cases hlt : k < s.size
    · have HT := Lib.hid (all_take_snoc s k hlt)
      by_cases hd : isDig s[k] = true
      · have HD := Lib.hid hd
        obtain ⟨d1, d2⟩ := (dig_of _).1 hd
        clear hd
        go_wp2
        go_round
        case rel => exact ⟨k + 1, by omega, by go_num, by rw [HT.out, HA.out, HD.out]; rfl⟩
        case measure => simp [intOf]; omega
      · have hno : s.data.toList.all isDig = false := all_of_take _ (k + 1) (by rw [HT.out]; simp [hd])
        have HN : Hid (digitsB s.data.toList = false) := by unfold digitsB; rw [hno]; rfl
        have hd2 := dig_not hd
        clear hno hd
        rcases hd2 with d1 | d1
        · go_wp2
          go_ret
          exact ⟨ret1 HN.out.symm, rfl⟩
        · have d0 : 48 ≤ (s[k].toNat : Int) := by omega
          go_wp2
          go_ret
          exact ⟨ret1 HN.out.symm, rfl⟩
    · go_wp2
      go_ret
      refine ⟨ret1 ?_, rfl⟩
      have h1 := HA.out
      rw [List.take_of_length_le (by simp; omega)] at h1
      unfold digitsB
      rw [h1, Bool.eq_iff_iff]
      simp
      exact Array.size_pos_iff

/-! ### Write -/
end Go.Proofs.YtglhanblbojkhaaGreatDoor

set_option linter.unusedSimpArgs false
set_option linter.unusedVariables false
namespace Go.Proofs.YtglhanblbojkhaaGreatDoor
open Go.RowKit
set_option maxHeartbeats 2000000 in
theorem rread_pos (s : ByteArray) (w : World) (hs : s.size ≤ maxLen) (hp : 0 < s.size) (hm : ((s[0].toNat : Int) == 45) = false) (hbl : s.data.toList = body s.data.toList) (hsg : below s.data.toList = false) :
    Calls Tryz.prog 77 #[.string s] w fun e w' => e = .returned (.tuple #[.int .i64 (rdV s.data.toList), .int .i64 (rdE s.data.toList)]) ∧ w = w' := by
  have hbs : s.size ≤ 9223372036854775807 := by
    unfold maxLen at hs
    have : s.data.toList.length ≤ s.data.toList.length := by rw [hbl]; unfold body; split <;> simp
    simp only [Array.length_toList] at this; change s.data.size ≤ s.data.size at this; change s.data.size ≤ _ at hs; change s.data.size ≤ _; omega
  have HD := Lib.hid (fun w => digits_any s w hbs)
  have hV : rdV s.data.toList = if okDigits s.data.toList then val ((num s.data.toList : Int)) else 0 := by unfold rdV signed; rw [hsg, ← hbl]; rfl
  have hE : rdE s.data.toList = if okDigits s.data.toList then err ((num s.data.toList : Int)) else 21 := by unfold rdE signed; rw [hsg, ← hbl]; rfl
  have HV := Lib.hid hV
  have HE := Lib.hid hE
  clear hV hE hbl hsg
  unfold maxLen at hs
  by_cases hd : digitsB s.data.toList = true
  · have hbp := size_pos_of s hd
    have hda := fun k hk => all_at s k hk hd
    have HDA := Lib.hid hda
    have hok0 := ok_size s hd hbp
    have HOK := Lib.hid hok0
    clear hda hok0
    rw [hd] at HD
    clear hd
    by_cases hz : ((s[0].toNat : Int) = 48 ∧ 1 < s.size)
    · have HN : Hid (okDigits s.data.toList = false) := not_ok_zero s hbp hz.1 hz.2
      obtain ⟨hz1, hz2⟩ := hz
      have hz3 : ((s[0].toNat : Int) == 48) = true := by simpa using hz1
      clear hz1
      go_enter Tryz.func77, Tryz.ntmps77
      go_wp2_with fail

      refine (HD.out _).mono ?_; rintro e w1 ⟨rfl, rfl⟩
      go_wp2_with fail
      go_ret2
      refine ⟨ret2 ?_ ?_, rfl⟩
      · rw [HV.out, HN.out]; rfl
      · rw [HE.out, HN.out]; rfl
    · have HN : Hid (okDigits s.data.toList = true) := HOK.out (fun h0 => by rcases Nat.lt_or_ge 1 s.size with h1 | h1; exact absurd ⟨h0, h1⟩ hz; exact h1)
      have hz3 : ((s[0].toNat : Int) == 48) = false ∨ s.size ≤ 1 := by
        rcases Nat.lt_or_ge 1 s.size with h1 | h1
        · left; simp only [beq_eq_false_iff_ne, ne_eq]; intro h0; exact hz ⟨h0, h1⟩
        · exact .inr h1
      have hzz : (((s[0].toNat : Int) == 48) = true ∧ s.size ≤ 1) ∨ ((s[0].toNat : Int) == 48) = false := by
        by_cases q : (s[0].toNat : Int) = 48
        · left
          have q' : ((s[0].toNat : Int) == 48) = true := by simpa using q
          refine ⟨q', ?_⟩
          rcases hz3 with h | h
          · rw [q'] at h; cases h
          · omega
        · right; simpa using q
      clear hz hz3 HOK
      rcases hzz with ⟨hz1, hz2⟩ | hz1
      all_goals
        go_enter Tryz.func77, Tryz.ntmps77
        go_wp2_with fail

        refine (HD.out _).mono ?_; rintro e w1 ⟨rfl, rfl⟩
        go_wp2_with fail
        go_loop [5, 6] (fun n i => ∃ k : Nat, k ≤ s.size ∧ i = .int .i64 k ∧ n = .int .i64 (part false s.data.toList k) ∧ R (part false s.data.toList k)) (fun n i => s.size - (intOf i).toNat)
        case atStart => exact ⟨0, Nat.zero_le _, rfl, rfl, part_zero _ _⟩
        case round =>
          obtain ⟨k, hk, rfl, rfl, hR⟩ := hrel
          by_cases hlt : k < s.size
          · obtain ⟨d1, d2⟩ := HDA.out k hlt
            have HS := Lib.hid (part_false_step s k hlt d1)
            have HO := Lib.hid (part_over false s.data.toList (k + 1))
            have hsn := part_false_sign s.data.toList k
            generalize hn : part false s.data.toList k = n at *
            generalize hn1 : part false s.data.toList (k + 1) = n1 at *
            have HM := Lib.hid (fun w => muls_any n 10 hR (by unfold R; omega) w)
            by_cases hM : R (n * 10)
            · have e1 : inR (n * 10) = true := (inR_iff _).2 hM
              rw [e1] at HM
              clear e1
              have hM2 := hM
              obtain ⟨m1, m2⟩ := hM2
              have HA := Lib.hid (fun w => adds_any (n * 10) (((s[k].toNat : Int) - 48)) hM (by unfold R; omega) w)
              have hs1 := HS.out
              rw [← hs1] at HA
              have Hn := Lib.hid hn
              have Hn1 := Lib.hid hn1
              clear hn hn1 hs1
              by_cases hA : R n1
              · have e2 : inR n1 = true := (inR_iff _).2 hA
                rw [e2] at HA
                clear e2
                go_wp2_with fail
                refine (HM.out _).mono ?_; rintro e w1 ⟨rfl, rfl⟩
                go_wp2_with fail
                refine (HA.out _).mono ?_; rintro e w1 ⟨rfl, rfl⟩
                go_wp2_with fail
                go_round
                case rel => exact ⟨k + 1, by omega, by go_num, by rw [Hn1.out, ← HS.out, wrap_in hA], by rw [Hn1.out]; exact hA⟩
                case measure => simp [intOf]; omega
              · have e2 : inR n1 = false := by rw [Bool.eq_false_iff]; exact fun e => hA ((inR_iff _).1 e)
                rw [e2] at HA
                have HX := Lib.hid (HO.out hA)
                clear e2 hA
                go_wp2_with fail
                refine (HM.out _).mono ?_; rintro e w1 ⟨rfl, rfl⟩
                go_wp2_with fail
                refine (HA.out _).mono ?_; rintro e w1 ⟨rfl, rfl⟩
                go_wp2_with fail
                go_ret2
                refine ⟨ret2 ?_ ?_, rfl⟩
                · rw [HV.out, if_pos HN.out]; exact (val_out HX.out).symm
                · rw [HE.out, if_pos HN.out]; exact (err_out HX.out).symm
            · have e1 : inR (n * 10) = false := by rw [Bool.eq_false_iff]; exact fun e => hM ((inR_iff _).1 e)
              rw [e1] at HM
              have hn1R : ¬ R n1 := by
                have := HS.out
                unfold R at hM hR ⊢
                omega
              have HX := Lib.hid (HO.out hn1R)
              clear e1 hM hn1R hn hn1
              go_wp2_with fail
              refine (HM.out _).mono ?_; rintro e w1 ⟨rfl, rfl⟩
              go_wp2_with fail
              go_ret2
              refine ⟨ret2 ?_ ?_, rfl⟩
              · rw [HV.out, if_pos HN.out]; exact (val_out HX.out).symm
              · rw [HE.out, if_pos HN.out]; exact (err_out HX.out).symm
          · go_wp2
            go_ret2
            have hpa := part_all false s.data.toList k (by rw [Array.length_toList]; change s.size ≤ k; omega)
            rw [hpa] at hR ⊢
            refine ⟨ret2 ?_ ?_, rfl⟩
            · rw [HV.out, if_pos HN.out]; exact (val_in hR).symm
            · rw [HE.out, if_pos HN.out]; exact (err_in hR).symm
  · have hd2 : digitsB s.data.toList = false := by simpa using hd
    have HN := Lib.hid (not_ok_dig _ hd2)
    rw [hd2] at HD
    clear hd hd2
    go_enter Tryz.func77, Tryz.ntmps77
    go_wp2_with fail

    refine (HD.out _).mono ?_; rintro e w1 ⟨rfl, rfl⟩
    go_wp2_with fail
    go_ret2
    refine ⟨ret2 ?_ ?_, rfl⟩
    · rw [HV.out, HN.out]; rfl
    · rw [HE.out, HN.out]; rfl
set_option maxHeartbeats 2000000 in
theorem rread_neg (s : ByteArray) (w : World) (hs : s.size ≤ maxLen) (hp : 0 < s.size) (hm : ((s[0].toNat : Int) == 45) = true) (b : ByteArray) (hb : (s.extract 1 s.size) = b) (hbl : b.data.toList = body s.data.toList) (hsg : below s.data.toList = true) :
    Calls Tryz.prog 77 #[.string s] w fun e w' => e = .returned (.tuple #[.int .i64 (rdV s.data.toList), .int .i64 (rdE s.data.toList)]) ∧ w = w' := by
  have hbs : b.size ≤ 9223372036854775807 := by
    unfold maxLen at hs
    have : b.data.toList.length ≤ s.data.toList.length := by rw [hbl]; unfold body; split <;> simp
    simp only [Array.length_toList] at this; change b.data.size ≤ s.data.size at this; change s.data.size ≤ _ at hs; change b.data.size ≤ _; omega
  have HD := Lib.hid (fun w => digits_any b w hbs)
  have hV : rdV s.data.toList = if okDigits b.data.toList then val (-(num b.data.toList : Int)) else 0 := by unfold rdV signed; rw [hsg, ← hbl]; rfl
  have hE : rdE s.data.toList = if okDigits b.data.toList then err (-(num b.data.toList : Int)) else 21 := by unfold rdE signed; rw [hsg, ← hbl]; rfl
  have HV := Lib.hid hV
  have HE := Lib.hid hE
  have HB := Lib.hid hb
  clear hV hE hbl hsg
  unfold maxLen at hs
  clear hb
  by_cases hd : digitsB b.data.toList = true
  · have hbp := size_pos_of b hd
    have hda := fun k hk => all_at b k hk hd
    have HDA := Lib.hid hda
    have hok0 := ok_size b hd hbp
    have HOK := Lib.hid hok0
    clear hda hok0
    rw [hd] at HD
    clear hd
    by_cases hz : ((b[0].toNat : Int) = 48 ∧ 1 < b.size)
    · have HN : Hid (okDigits b.data.toList = false) := not_ok_zero b hbp hz.1 hz.2
      obtain ⟨hz1, hz2⟩ := hz
      have hz3 : ((b[0].toNat : Int) == 48) = true := by simpa using hz1
      clear hz1
      go_enter Tryz.func77, Tryz.ntmps77
      go_wp2_with fail
      rw [HB.out]
      refine (HD.out _).mono ?_; rintro e w1 ⟨rfl, rfl⟩
      go_wp2_with fail
      go_ret2
      refine ⟨ret2 ?_ ?_, rfl⟩
      · rw [HV.out, HN.out]; rfl
      · rw [HE.out, HN.out]; rfl
    · have HN : Hid (okDigits b.data.toList = true) := HOK.out (fun h0 => by rcases Nat.lt_or_ge 1 b.size with h1 | h1; exact absurd ⟨h0, h1⟩ hz; exact h1)
      have hz3 : ((b[0].toNat : Int) == 48) = false ∨ b.size ≤ 1 := by
        rcases Nat.lt_or_ge 1 b.size with h1 | h1
        · left; simp only [beq_eq_false_iff_ne, ne_eq]; intro h0; exact hz ⟨h0, h1⟩
        · exact .inr h1
      have hzz : (((b[0].toNat : Int) == 48) = true ∧ b.size ≤ 1) ∨ ((b[0].toNat : Int) == 48) = false := by
        by_cases q : (b[0].toNat : Int) = 48
        · left
          have q' : ((b[0].toNat : Int) == 48) = true := by simpa using q
          refine ⟨q', ?_⟩
          rcases hz3 with h | h
          · rw [q'] at h; cases h
          · omega
        · right; simpa using q
      clear hz hz3 HOK
      rcases hzz with ⟨hz1, hz2⟩ | hz1
      all_goals
        go_enter Tryz.func77, Tryz.ntmps77
        go_wp2_with fail
        rw [HB.out]
        refine (HD.out _).mono ?_; rintro e w1 ⟨rfl, rfl⟩
        go_wp2_with fail
        go_loop [5, 6] (fun n i => ∃ k : Nat, k ≤ b.size ∧ i = .int .i64 k ∧ n = .int .i64 (part true b.data.toList k) ∧ R (part true b.data.toList k)) (fun n i => b.size - (intOf i).toNat)
        case atStart => exact ⟨0, Nat.zero_le _, rfl, rfl, part_zero _ _⟩
        case round =>
          obtain ⟨k, hk, rfl, rfl, hR⟩ := hrel
          by_cases hlt : k < b.size
          · obtain ⟨d1, d2⟩ := HDA.out k hlt
            have HS := Lib.hid (part_true_step b k hlt d1)
            have HO := Lib.hid (part_over true b.data.toList (k + 1))
            have hsn := part_true_sign b.data.toList k
            generalize hn : part true b.data.toList k = n at *
            generalize hn1 : part true b.data.toList (k + 1) = n1 at *
            have HM := Lib.hid (fun w => muls_any n 10 hR (by unfold R; omega) w)
            by_cases hM : R (n * 10)
            · have e1 : inR (n * 10) = true := (inR_iff _).2 hM
              rw [e1] at HM
              clear e1
              have hM2 := hM
              obtain ⟨m1, m2⟩ := hM2
              have HA := Lib.hid (fun w => adds_any (n * 10) (-((b[k].toNat : Int) - 48)) hM (by unfold R; omega) w)
              have hs1 := HS.out
              rw [← hs1] at HA
              have Hn := Lib.hid hn
              have Hn1 := Lib.hid hn1
              clear hn hn1 hs1
              by_cases hA : R n1
              · have e2 : inR n1 = true := (inR_iff _).2 hA
                rw [e2] at HA
                clear e2
                go_wp2_with fail
                refine (HM.out _).mono ?_; rintro e w1 ⟨rfl, rfl⟩
                go_wp2_with fail
                refine (HA.out _).mono ?_; rintro e w1 ⟨rfl, rfl⟩
                go_wp2_with fail
                go_round
                case rel => exact ⟨k + 1, by omega, by go_num, by rw [Hn1.out, ← HS.out, wrap_in hA], by rw [Hn1.out]; exact hA⟩
                case measure => simp [intOf]; omega
              · have e2 : inR n1 = false := by rw [Bool.eq_false_iff]; exact fun e => hA ((inR_iff _).1 e)
                rw [e2] at HA
                have HX := Lib.hid (HO.out hA)
                clear e2 hA
                go_wp2_with fail
                refine (HM.out _).mono ?_; rintro e w1 ⟨rfl, rfl⟩
                go_wp2_with fail
                refine (HA.out _).mono ?_; rintro e w1 ⟨rfl, rfl⟩
                go_wp2_with fail
                go_ret2
                refine ⟨ret2 ?_ ?_, rfl⟩
                · rw [HV.out, if_pos HN.out]; exact (val_out HX.out).symm
                · rw [HE.out, if_pos HN.out]; exact (err_out HX.out).symm
            · have e1 : inR (n * 10) = false := by rw [Bool.eq_false_iff]; exact fun e => hM ((inR_iff _).1 e)
              rw [e1] at HM
              have hn1R : ¬ R n1 := by
                have := HS.out
                unfold R at hM hR ⊢
                omega
              have HX := Lib.hid (HO.out hn1R)
              clear e1 hM hn1R hn hn1
              go_wp2_with fail
              refine (HM.out _).mono ?_; rintro e w1 ⟨rfl, rfl⟩
              go_wp2_with fail
              go_ret2
              refine ⟨ret2 ?_ ?_, rfl⟩
              · rw [HV.out, if_pos HN.out]; exact (val_out HX.out).symm
              · rw [HE.out, if_pos HN.out]; exact (err_out HX.out).symm
          · go_wp2
            go_ret2
            have hpa := part_all true b.data.toList k (by rw [Array.length_toList]; change b.size ≤ k; omega)
            rw [hpa] at hR ⊢
            refine ⟨ret2 ?_ ?_, rfl⟩
            · rw [HV.out, if_pos HN.out]; exact (val_in hR).symm
            · rw [HE.out, if_pos HN.out]; exact (err_in hR).symm
  · have hd2 : digitsB b.data.toList = false := by simpa using hd
    have HN := Lib.hid (not_ok_dig _ hd2)
    rw [hd2] at HD
    clear hd hd2
    go_enter Tryz.func77, Tryz.ntmps77
    go_wp2_with fail
    rw [HB.out]
    refine (HD.out _).mono ?_; rintro e w1 ⟨rfl, rfl⟩
    go_wp2_with fail
    go_ret2
    refine ⟨ret2 ?_ ?_, rfl⟩
    · rw [HV.out, HN.out]; rfl
    · rw [HE.out, HN.out]; rfl
set_option maxHeartbeats 400000 in
theorem rread_nil (s : ByteArray) (w : World) (h0 : s.size = 0) :
    Calls Tryz.prog 77 #[.string s] w fun e w' => e = .returned (.tuple #[.int .i64 (rdV s.data.toList), .int .i64 (rdE s.data.toList)]) ∧ w = w' := by
  have hs : s = ⟨#[]⟩ := ByteArray.ext (Array.eq_empty_of_size_eq_zero h0)
  subst hs
  have HD := Lib.hid (fun w => digits_any (⟨#[]⟩ : ByteArray) w (by decide))
  have e0 : digitsB (⟨#[]⟩ : ByteArray).data.toList = false := rfl
  rw [e0] at HD
  clear e0
  go_enter Tryz.func77, Tryz.ntmps77
  go_wp2_with fail
  refine (HD.out _).mono ?_; rintro e w1 ⟨rfl, rfl⟩
  go_wp2_with fail
  go_ret2
  exact ⟨rfl, rfl⟩
theorem rread_any (s : ByteArray) (w : World) (hs : s.size ≤ maxLen) :
    Calls Tryz.prog 77 #[.string s] w fun e w' => e = .returned (.tuple #[.int .i64 (rdV s.data.toList), .int .i64 (rdE s.data.toList)]) ∧ w = w' := by
  rcases Nat.eq_zero_or_pos s.size with h0 | hp
  · exact rread_nil s w h0
  · have hb := below_eq s hp
    cases hbl : below s.data.toList with
    | false => exact rread_pos s w hs hp (by rw [← hb, hbl]) (by unfold body; rw [hbl]; rfl) hbl
    | true =>
      refine rread_neg s w hs hp (by rw [← hb, hbl]) _ rfl ?_ hbl
      unfold body; rw [hbl, if_pos rfl, Lib.extract_to_end, List.drop_one]

end Go.Proofs.YtglhanblbojkhaaGreatDoor
