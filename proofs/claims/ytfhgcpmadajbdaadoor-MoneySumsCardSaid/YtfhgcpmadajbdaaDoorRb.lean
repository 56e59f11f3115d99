/- The walk through the reference's reading of digits (provostref02.Read). -/
import Derived.Test.YtfhgcpmadajbdaaDoorRa
import Derived.Test.YtfhgcpmadajbdaaDoorWa
import Derived.Test.YtfhgcpmadajbdaaDoorWm
import Derived.Lib.IndexBytes
set_option linter.unusedSimpArgs false
set_option linter.unusedVariables false
namespace Go.Proofs.YtfhgcpmadajbdaaDoor
open Go.RowKit

/-- So far: the number of the first digits, by its sign. -/
def part (b : Bool) (l : List UInt8) (k : Nat) : Int := if b then -(num (l.take k) : Int) else num (l.take k)
theorem part_all (b : Bool) (l : List UInt8) (k : Nat) (h : l.length ≤ k) : part b l k = if b then -(num l : Int) else num l := by
  unfold part; rw [List.take_of_length_le h]
theorem part_zero (b : Bool) (l : List UInt8) : R (part b l 0) := by
  have e : part b l 0 = 0 := by cases b <;> rfl
  rw [e]; unfold R; omega
theorem part_false_sign (l : List UInt8) (k : Nat) : 0 ≤ part false l k := by unfold part; simp
theorem part_true_sign (l : List UInt8) (k : Nat) : part true l k ≤ 0 := by unfold part; simp
theorem part_false_step (s : ByteArray) (k : Nat) (h : k < s.size) (h0 : 48 ≤ (s[k].toNat : Int)) : part false s.data.toList (k + 1) = part false s.data.toList k * 10 + ((s[k].toNat : Int) - 48) := by
  unfold part; rw [take_snoc s k h, num_snoc, dv]
  have : 48 ≤ s[k].toNat := by omega
  simp; omega
theorem part_true_step (s : ByteArray) (k : Nat) (h : k < s.size) (h0 : 48 ≤ (s[k].toNat : Int)) : part true s.data.toList (k + 1) = part true s.data.toList k * 10 + -((s[k].toNat : Int) - 48) := by
  unfold part; rw [take_snoc s k h, num_snoc, dv]
  have : 48 ≤ s[k].toNat := by omega
  simp; omega
theorem part_le (l : List UInt8) (k : Nat) : (num (l.take k) : Int) ≤ num l := Int.ofNat_le.2 (numFrom_take_le l k)
/-- Once it has run over, it has run over to the end. -/
theorem part_over (b : Bool) (l : List UInt8) (k : Nat) (h : ¬ R (part b l k)) : ¬ R (if b then -(num l : Int) else num l) := by
  have := part_le l k
  unfold part R at *
  cases b <;> simp at * <;> omega
theorem all_at (s : ByteArray) (k : Nat) (h : k < s.size) (ha : digitsB s.data.toList = true) : 48 ≤ (s[k].toNat : Int) ∧ (s[k].toNat : Int) ≤ 57 := by
  simp only [digitsB, Bool.and_eq_true] at ha
  have := List.all_eq_true.1 ha.1 s[k] (by rw [show s[k] = s.data.toList[k]'(by simpa using h) from by simp; rfl]; exact List.getElem_mem _)
  exact (dig_of _).1 this
theorem size_pos_of (s : ByteArray) (h : digitsB s.data.toList = true) : 0 < s.size := by
  simp only [digitsB, Bool.and_eq_true, Bool.not_eq_true', List.isEmpty_eq_false_iff] at h
  rcases Nat.eq_zero_or_pos s.size with h0 | h0
  · exact absurd (List.eq_nil_of_length_eq_zero (by simpa using h0)) h.2
  · exact h0
theorem head_zero (s : ByteArray) (h : 0 < s.size) : (s.data.toList.head? == some 48) = ((s[0].toNat : Int) == 48) := by
  have e : s.data.toList.head? = some s[0] := by
    rw [List.head?_eq_getElem?, List.getElem?_eq_getElem (by simpa using h)]; rfl
  rw [e, Bool.eq_iff_iff]
  simp only [beq_iff_eq, Option.some.injEq]
  constructor
  · intro q; rw [q]; rfl
  · intro q; exact UInt8.toNat_inj.1 (by have : (48 : UInt8).toNat = 48 := rfl; omega)
theorem below_eq (s : ByteArray) (h : 0 < s.size) : below s.data.toList = ((s[0].toNat : Int) == 45) := by
  obtain ⟨c, r, hl⟩ : ∃ c r, s.data.toList = c :: r := by
    cases hl : s.data.toList with
    | nil => have h2 : s.data.toList.length = 0 := by rw [hl]; rfl
             rw [Array.length_toList] at h2; change 0 < s.data.size at h; omega
    | cons c r => exact ⟨c, r, rfl⟩
  have e : s[0] = c := by
    have : s.data.toList[0]? = some s[0] := by rw [List.getElem?_eq_getElem (by simpa using h)]; rfl
    rw [hl] at this; simpa using this.symm
  rw [hl, e, Bool.eq_iff_iff]
  simp only [below, beq_iff_eq]
  constructor
  · intro q; rw [q]; rfl
  · intro q; exact UInt8.toNat_inj.1 (by have : (45 : UInt8).toNat = 45 := rfl; omega)
theorem ok_size (s : ByteArray) (h : digitsB s.data.toList = true) (hp : 0 < s.size) (hz : (s[0].toNat : Int) = 48 → s.size ≤ 1) : okDigits s.data.toList = true := by
  unfold okDigits
  rw [h, head_zero s hp]
  by_cases h0 : (s[0].toNat : Int) = 48
  · have := hz h0
    have hl : decide (1 < s.data.toList.length) = false := by rw [Array.length_toList]; exact decide_eq_false (by change ¬ 1 < s.size; omega)
    rw [hl]; simp
  · have : ((s[0].toNat : Int) == 48) = false := by simpa using h0
    rw [this]; rfl
theorem not_ok_zero (s : ByteArray) (hp : 0 < s.size) (hz : (s[0].toNat : Int) = 48) (h1 : 1 < s.size) : okDigits s.data.toList = false := by
  unfold okDigits
  rw [head_zero s hp, hz]
  have hl : decide (1 < s.data.toList.length) = true := by rw [Array.length_toList]; exact decide_eq_true h1
  rw [hl]; simp
theorem not_ok_dig (l : List UInt8) (h : digitsB l = false) : okDigits l = false := by unfold okDigits; rw [h]; rfl

set_option maxHeartbeats 2000000 in
theorem rread_pos (s : ByteArray) (w : World) (hs : s.size ≤ maxLen) (hp : 0 < s.size) (hm : ((s[0].toNat : Int) == 45) = false) (hbl : s.data.toList = body s.data.toList) (hsg : below s.data.toList = false) :
    Calls Tryd.prog 43 #[.string s] w fun e w' => e = .returned (.tuple #[.int .i64 (rdV s.data.toList), .int .i64 (rdE s.data.toList)]) ∧ w = w' := by
  have hbs : s.size ≤ 9223372036854775807 := by
    unfold maxLen at hs
    have : s.data.toList.length ≤ s.data.toList.length := by rw [hbl]; unfold body; split <;> simp
    simp only [Array.length_toList] at this; change s.data.size ≤ s.data.size at this; change s.data.size ≤ _ at hs; change s.data.size ≤ _; omega
  have HD := Lib.hid (fun w => digits_any s w hbs)
  have hV : rdV s.data.toList = if okDigits s.data.toList then val ((num s.data.toList : Int)) else 0 := by unfold rdV signed; rw [hsg, ← hbl]; rfl
  have hE : rdE s.data.toList = if okDigits s.data.toList then err ((num s.data.toList : Int)) else 21 := by unfold rdE signed; rw [hsg, ← hbl]; rfl
  have HV := Lib.hid hV
  have HE := Lib.hid hE
  clear hV hE hbl hsg
  unfold maxLen at hs
  by_cases hd : digitsB s.data.toList = true
  · have hbp := size_pos_of s hd
    have hda := fun k hk => all_at s k hk hd
    have HDA := Lib.hid hda
    have hok0 := ok_size s hd hbp
    have HOK := Lib.hid hok0
    clear hda hok0
    rw [hd] at HD
    clear hd
    by_cases hz : ((s[0].toNat : Int) = 48 ∧ 1 < s.size)
    · have HN : Hid (okDigits s.data.toList = false) := not_ok_zero s hbp hz.1 hz.2
      obtain ⟨hz1, hz2⟩ := hz
      have hz3 : ((s[0].toNat : Int) == 48) = true := by simpa using hz1
      clear hz1
      go_enter Tryd.func43, Tryd.ntmps43
      go_wp2_with fail

      refine (HD.out _).mono ?_; rintro e w1 ⟨rfl, rfl⟩
      go_wp2_with fail
      go_ret2
      refine ⟨ret2 ?_ ?_, rfl⟩
      · rw [HV.out, HN.out]; rfl
      · rw [HE.out, HN.out]; rfl
    · have HN : Hid (okDigits s.data.toList = true) := HOK.out (fun h0 => by rcases Nat.lt_or_ge 1 s.size with h1 | h1; exact absurd ⟨h0, h1⟩ hz; exact h1)
      have hz3 : ((s[0].toNat : Int) == 48) = false ∨ s.size ≤ 1 := by
        rcases Nat.lt_or_ge 1 s.size with h1 | h1
        · left; simp only [beq_eq_false_iff_ne, ne_eq]; intro h0; exact hz ⟨h0, h1⟩
        · exact .inr h1
      have hzz : (((s[0].toNat : Int) == 48) = true ∧ s.size ≤ 1) ∨ ((s[0].toNat : Int) == 48) = false := by
        by_cases q : (s[0].toNat : Int) = 48
        · left
          have q' : ((s[0].toNat : Int) == 48) = true := by simpa using q
          refine ⟨q', ?_⟩
          rcases hz3 with h | h
          · rw [q'] at h; cases h
          · omega
        · right; simpa using q
      clear hz hz3 HOK
      rcases hzz with ⟨hz1, hz2⟩ | hz1
      all_goals
        go_enter Tryd.func43, Tryd.ntmps43
        go_wp2_with fail

        refine (HD.out _).mono ?_; rintro e w1 ⟨rfl, rfl⟩
        go_wp2_with fail
        go_loop [5, 6] (fun n i => ∃ k : Nat, k ≤ s.size ∧ i = .int .i64 k ∧ n = .int .i64 (part false s.data.toList k) ∧ R (part false s.data.toList k)) (fun n i => s.size - (intOf i).toNat)
        case atStart => exact ⟨0, Nat.zero_le _, rfl, rfl, part_zero _ _⟩
        case round =>
          obtain ⟨k, hk, rfl, rfl, hR⟩ := hrel
          by_cases hlt : k < s.size
          · obtain ⟨d1, d2⟩ := HDA.out k hlt
            have HS := Lib.hid (part_false_step s k hlt d1)
            have HO := Lib.hid (part_over false s.data.toList (k + 1))
            have hsn := part_false_sign s.data.toList k
            generalize hn : part false s.data.toList k = n at *
            generalize hn1 : part false s.data.toList (k + 1) = n1 at *
            have HM := Lib.hid (fun w => muls_any n 10 hR (by unfold R; omega) w)
            by_cases hM : R (n * 10)
            · have e1 : inR (n * 10) = true := (inR_iff _).2 hM
              rw [e1] at HM
              clear e1
              have hM2 := hM
              obtain ⟨m1, m2⟩ := hM2
              have HA := Lib.hid (fun w => adds_any (n * 10) (((s[k].toNat : Int) - 48)) hM (by unfold R; omega) w)
              have hs1 := HS.out
              rw [← hs1] at HA
              have Hn := Lib.hid hn
              have Hn1 := Lib.hid hn1
              clear hn hn1 hs1
              by_cases hA : R n1
              · have e2 : inR n1 = true := (inR_iff _).2 hA
                rw [e2] at HA
                clear e2
                go_wp2_with fail
                refine (HM.out _).mono ?_; rintro e w1 ⟨rfl, rfl⟩
                go_wp2_with fail
                refine (HA.out _).mono ?_; rintro e w1 ⟨rfl, rfl⟩
                go_wp2_with fail
                go_round
                case rel => exact ⟨k + 1, by omega, by go_num, by rw [Hn1.out, ← HS.out, wrap_in hA], by rw [Hn1.out]; exact hA⟩
                case measure => simp [intOf]; omega
              · have e2 : inR n1 = false := by rw [Bool.eq_false_iff]; exact fun e => hA ((inR_iff _).1 e)
                rw [e2] at HA
                have HX := Lib.hid (HO.out hA)
                clear e2 hA
                go_wp2_with fail
                refine (HM.out _).mono ?_; rintro e w1 ⟨rfl, rfl⟩
                go_wp2_with fail
                refine (HA.out _).mono ?_; rintro e w1 ⟨rfl, rfl⟩
                go_wp2_with fail
                go_ret2
                refine ⟨ret2 ?_ ?_, rfl⟩
                · rw [HV.out, if_pos HN.out]; exact (val_out HX.out).symm
                · rw [HE.out, if_pos HN.out]; exact (err_out HX.out).symm
            · have e1 : inR (n * 10) = false := by rw [Bool.eq_false_iff]; exact fun e => hM ((inR_iff _).1 e)
              rw [e1] at HM
              have hn1R : ¬ R n1 := by
                have := HS.out
                unfold R at hM hR ⊢
                omega
              have HX := Lib.hid (HO.out hn1R)
              clear e1 hM hn1R hn hn1
              go_wp2_with fail
              refine (HM.out _).mono ?_; rintro e w1 ⟨rfl, rfl⟩
              go_wp2_with fail
              go_ret2
              refine ⟨ret2 ?_ ?_, rfl⟩
              · rw [HV.out, if_pos HN.out]; exact (val_out HX.out).symm
              · rw [HE.out, if_pos HN.out]; exact (err_out HX.out).symm
          · go_wp2
            go_ret2
            have hpa := part_all false s.data.toList k (by rw [Array.length_toList]; change s.size ≤ k; omega)
            rw [hpa] at hR ⊢
            refine ⟨ret2 ?_ ?_, rfl⟩
            · rw [HV.out, if_pos HN.out]; exact (val_in hR).symm
            · rw [HE.out, if_pos HN.out]; exact (err_in hR).symm
  · have hd2 : digitsB s.data.toList = false := by simpa using hd
    have HN := Lib.hid (not_ok_dig _ hd2)
    rw [hd2] at HD
    clear hd hd2
    go_enter Tryd.func43, Tryd.ntmps43
    go_wp2_with fail

    refine (HD.out _).mono ?_; rintro e w1 ⟨rfl, rfl⟩
    go_wp2_with fail
    go_ret2
    refine ⟨ret2 ?_ ?_, rfl⟩
    · rw [HV.out, HN.out]; rfl
    · rw [HE.out, HN.out]; rfl
set_option maxHeartbeats 2000000 in
theorem rread_neg (s : ByteArray) (w : World) (hs : s.size ≤ maxLen) (hp : 0 < s.size) (hm : ((s[0].toNat : Int) == 45) = true) (b : ByteArray) (hb : (s.extract 1 s.size) = b) (hbl : b.data.toList = body s.data.toList) (hsg : below s.data.toList = true) :
    Calls Tryd.prog 43 #[.string s] w fun e w' => e = .returned (.tuple #[.int .i64 (rdV s.data.toList), .int .i64 (rdE s.data.toList)]) ∧ w = w' := by
  have hbs : b.size ≤ 9223372036854775807 := by
    unfold maxLen at hs
    have : b.data.toList.length ≤ s.data.toList.length := by rw [hbl]; unfold body; split <;> simp
    simp only [Array.length_toList] at this; change b.data.size ≤ s.data.size at this; change s.data.size ≤ _ at hs; change b.data.size ≤ _; omega
  have HD := Lib.hid (fun w => digits_any b w hbs)
  have hV : rdV s.data.toList = if okDigits b.data.toList then val (-(num b.data.toList : Int)) else 0 := by unfold rdV signed; rw [hsg, ← hbl]; rfl
  have hE : rdE s.data.toList = if okDigits b.data.toList then err (-(num b.data.toList : Int)) else 21 := by unfold rdE signed; rw [hsg, ← hbl]; rfl
  have HV := Lib.hid hV
  have HE := Lib.hid hE
  have HB := Lib.hid hb
  clear hV hE hbl hsg
  unfold maxLen at hs
  clear hb
  by_cases hd : digitsB b.data.toList = true
  · have hbp := size_pos_of b hd
    have hda := fun k hk => all_at b k hk hd
    have HDA := Lib.hid hda
    have hok0 := ok_size b hd hbp
    have HOK := Lib.hid hok0
    clear hda hok0
    rw [hd] at HD
    clear hd
    by_cases hz : ((b[0].toNat : Int) = 48 ∧ 1 < b.size)
    · have HN : Hid (okDigits b.data.toList = false) := not_ok_zero b hbp hz.1 hz.2
      obtain ⟨hz1, hz2⟩ := hz
      have hz3 : ((b[0].toNat : Int) == 48) = true := by simpa using hz1
      clear hz1
      go_enter Tryd.func43, Tryd.ntmps43
      go_wp2_with fail
      rw [HB.out]
      refine (HD.out _).mono ?_; rintro e w1 ⟨rfl, rfl⟩
      go_wp2_with fail
      go_ret2
      refine ⟨ret2 ?_ ?_, rfl⟩
      · rw [HV.out, HN.out]; rfl
      · rw [HE.out, HN.out]; rfl
    · have HN : Hid (okDigits b.data.toList = true) := HOK.out (fun h0 => by rcases Nat.lt_or_ge 1 b.size with h1 | h1; exact absurd ⟨h0, h1⟩ hz; exact h1)
      have hz3 : ((b[0].toNat : Int) == 48) = false ∨ b.size ≤ 1 := by
        rcases Nat.lt_or_ge 1 b.size with h1 | h1
        · left; simp only [beq_eq_false_iff_ne, ne_eq]; intro h0; exact hz ⟨h0, h1⟩
        · exact .inr h1
      have hzz : (((b[0].toNat : Int) == 48) = true ∧ b.size ≤ 1) ∨ ((b[0].toNat : Int) == 48) = false := by
        by_cases q : (b[0].toNat : Int) = 48
        · left
          have q' : ((b[0].toNat : Int) == 48) = true := by simpa using q
          refine ⟨q', ?_⟩
          rcases hz3 with h | h
          · rw [q'] at h; cases h
          · omega
        · right; simpa using q
      clear hz hz3 HOK
      rcases hzz with ⟨hz1, hz2⟩ | hz1
      all_goals
        go_enter Tryd.func43, Tryd.ntmps43
        go_wp2_with fail
        rw [HB.out]
        refine (HD.out _).mono ?_; rintro e w1 ⟨rfl, rfl⟩
        go_wp2_with fail
        go_loop [5, 6] (fun n i => ∃ k : Nat, k ≤ b.size ∧ i = .int .i64 k ∧ n = .int .i64 (part true b.data.toList k) ∧ R (part true b.data.toList k)) (fun n i => b.size - (intOf i).toNat)
        case atStart => exact ⟨0, Nat.zero_le _, rfl, rfl, part_zero _ _⟩
        case round =>
          obtain ⟨k, hk, rfl, rfl, hR⟩ := hrel
          by_cases hlt : k < b.size
          · obtain ⟨d1, d2⟩ := HDA.out k hlt
            have HS := Lib.hid (part_true_step b k hlt d1)
            have HO := Lib.hid (part_over true b.data.toList (k + 1))
            have hsn := part_true_sign b.data.toList k
            generalize hn : part true b.data.toList k = n at *
            generalize hn1 : part true b.data.toList (k + 1) = n1 at *
            have HM := Lib.hid (fun w => muls_any n 10 hR (by unfold R; omega) w)
            by_cases hM : R (n * 10)
            · have e1 : inR (n * 10) = true := (inR_iff _).2 hM
              rw [e1] at HM
              clear e1
              have hM2 := hM
              obtain ⟨m1, m2⟩ := hM2
              have HA := Lib.hid (fun w => adds_any (n * 10) (-((b[k].toNat : Int) - 48)) hM (by unfold R; omega) w)
              have hs1 := HS.out
              rw [← hs1] at HA
              have Hn := Lib.hid hn
              have Hn1 := Lib.hid hn1
              clear hn hn1 hs1
              by_cases hA : R n1
              · have e2 : inR n1 = true := (inR_iff _).2 hA
                rw [e2] at HA
                clear e2
                go_wp2_with fail
                refine (HM.out _).mono ?_; rintro e w1 ⟨rfl, rfl⟩
                go_wp2_with fail
                refine (HA.out _).mono ?_; rintro e w1 ⟨rfl, rfl⟩
                go_wp2_with fail
                go_round
                case rel => exact ⟨k + 1, by omega, by go_num, by rw [Hn1.out, ← HS.out, wrap_in hA], by rw [Hn1.out]; exact hA⟩
                case measure => simp [intOf]; omega
              · have e2 : inR n1 = false := by rw [Bool.eq_false_iff]; exact fun e => hA ((inR_iff _).1 e)
                rw [e2] at HA
                have HX := Lib.hid (HO.out hA)
                clear e2 hA
                go_wp2_with fail
                refine (HM.out _).mono ?_; rintro e w1 ⟨rfl, rfl⟩
                go_wp2_with fail
                refine (HA.out _).mono ?_; rintro e w1 ⟨rfl, rfl⟩
                go_wp2_with fail
                go_ret2
                refine ⟨ret2 ?_ ?_, rfl⟩
                · rw [HV.out, if_pos HN.out]; exact (val_out HX.out).symm
                · rw [HE.out, if_pos HN.out]; exact (err_out HX.out).symm
            · have e1 : inR (n * 10) = false := by rw [Bool.eq_false_iff]; exact fun e => hM ((inR_iff _).1 e)
              rw [e1] at HM
              have hn1R : ¬ R n1 := by
                have := HS.out
                unfold R at hM hR ⊢
                omega
              have HX := Lib.hid (HO.out hn1R)
              clear e1 hM hn1R hn hn1
              go_wp2_with fail
              refine (HM.out _).mono ?_; rintro e w1 ⟨rfl, rfl⟩
              go_wp2_with fail
              go_ret2
              refine ⟨ret2 ?_ ?_, rfl⟩
              · rw [HV.out, if_pos HN.out]; exact (val_out HX.out).symm
              · rw [HE.out, if_pos HN.out]; exact (err_out HX.out).symm
          · go_wp2
            go_ret2
            have hpa := part_all true b.data.toList k (by rw [Array.length_toList]; change b.size ≤ k; omega)
            rw [hpa] at hR ⊢
            refine ⟨ret2 ?_ ?_, rfl⟩
            · rw [HV.out, if_pos HN.out]; exact (val_in hR).symm
            · rw [HE.out, if_pos HN.out]; exact (err_in hR).symm
  · have hd2 : digitsB b.data.toList = false := by simpa using hd
    have HN := Lib.hid (not_ok_dig _ hd2)
    rw [hd2] at HD
    clear hd hd2
    go_enter Tryd.func43, Tryd.ntmps43
    go_wp2_with fail
    rw [HB.out]
    refine (HD.out _).mono ?_; rintro e w1 ⟨rfl, rfl⟩
    go_wp2_with fail
    go_ret2
    refine ⟨ret2 ?_ ?_, rfl⟩
    · rw [HV.out, HN.out]; rfl
    · rw [HE.out, HN.out]; rfl
set_option maxHeartbeats 400000 in
theorem rread_nil (s : ByteArray) (w : World) (h0 : s.size = 0) :
    Calls Tryd.prog 43 #[.string s] w fun e w' => e = .returned (.tuple #[.int .i64 (rdV s.data.toList), .int .i64 (rdE s.data.toList)]) ∧ w = w' := by
  have hs : s = ⟨#[]⟩ := ByteArray.ext (Array.eq_empty_of_size_eq_zero h0)
  subst hs
  have HD := Lib.hid (fun w => digits_any (⟨#[]⟩ : ByteArray) w (by decide))
  have e0 : digitsB (⟨#[]⟩ : ByteArray).data.toList = false := rfl
  rw [e0] at HD
  clear e0
  go_enter Tryd.func43, Tryd.ntmps43
  go_wp2_with fail
  refine (HD.out _).mono ?_; rintro e w1 ⟨rfl, rfl⟩
  go_wp2_with fail
  go_ret2
  exact ⟨rfl, rfl⟩
theorem rread_any (s : ByteArray) (w : World) (hs : s.size ≤ maxLen) :
    Calls Tryd.prog 43 #[.string s] w fun e w' => e = .returned (.tuple #[.int .i64 (rdV s.data.toList), .int .i64 (rdE s.data.toList)]) ∧ w = w' := by
  rcases Nat.eq_zero_or_pos s.size with h0 | hp
  · exact rread_nil s w h0
  · have hb := below_eq s hp
    cases hbl : below s.data.toList with
    | false => exact rread_pos s w hs hp (by rw [← hb, hbl]) (by unfold body; rw [hbl]; rfl) hbl
    | true =>
      refine rread_neg s w hs hp (by rw [← hb, hbl]) _ rfl ?_ hbl
      unfold body; rw [hbl, if_pos rfl, Lib.extract_to_end, List.drop_one]
end Go.Proofs.YtfhgcpmadajbdaaDoor
