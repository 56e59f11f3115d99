/- The walks through the reference's May, Check, Of, Tell, Text of Decimals (provostref14). -/
import Derived.Test.YtgljbhbpjobnbaaDoorNg
import Derived.Test.YtgljbhbpjobnbaaDoorMn
import Derived.Test.YtgljbhbpjobnbaaDoorRw
set_option linter.unusedSimpArgs false
set_option linter.unusedVariables false
namespace Go.Proofs.YtgljbhbpjobnbaaDoor
open Go.RowKit
set_option maxRecDepth 100000 in
set_option maxHeartbeats 4000000 in
theorem rmay14_any (m s : Int) (hm : R m) (hs : R s) (w : World) :
    Calls Tryd.prog 17 #[.agg #[.int .i64 m, .int .i64 s]] w fun e w' => e = .returned (.bool (may m s)) ∧ Below w.heap.size w w' := by
  obtain ⟨m1, m2⟩ := hm
  obtain ⟨s1, s2⟩ := hs
  go_enter Tryd.func17, Tryd.ntmps17
  go_wp2_with fail
  all_goals
    go_ret
    refine ⟨ret1 ?_, (Below.refl _ _).alloc (Nat.le_refl _) _⟩
    go_light
    have ht := tmod_zero m
    have hc : may m s = decide (0 ≤ s ∧ s ≤ 18 ∧ (s = 0 ∨ ¬ m % 10 = 0)) := rfl
    rw [hc]
    clear hc
    (try simp only [beq_iff_eq, beq_eq_false_iff_ne] at *)
    rw [Bool.eq_iff_iff]
    simp
    try omega
set_option maxRecDepth 100000 in
set_option maxHeartbeats 4000000 in
theorem rcheck14_true (m s : Int) (w : World) (H : Hid (∀ w, Calls Tryd.prog 17 #[.agg #[.int .i64 m, .int .i64 s]] w fun e w' => e = .returned (.bool true) ∧ Below w.heap.size w w')) :
    Calls Tryd.prog 11 #[.agg #[.int .i64 m, .int .i64 s]] w fun e w' => e = .returned (.int .i64 0) ∧ Below w.heap.size w w' := by
  go_enter Tryd.func11, Tryd.ntmps11
  go_wp2_with fail
  refine (H.out _).mono ?_; rintro e w1 ⟨rfl, hb⟩
  go_wp2_with fail
  go_ret
  exact ⟨rfl, ((Below.refl _ _).alloc (Nat.le_refl _) _).trans (hb.mono (by simp))⟩
set_option maxRecDepth 100000 in
set_option maxHeartbeats 4000000 in
theorem rcheck14_false (m s : Int) (w : World) (H : Hid (∀ w, Calls Tryd.prog 17 #[.agg #[.int .i64 m, .int .i64 s]] w fun e w' => e = .returned (.bool false) ∧ Below w.heap.size w w')) :
    Calls Tryd.prog 11 #[.agg #[.int .i64 m, .int .i64 s]] w fun e w' => e = .returned (.int .i64 140) ∧ Below w.heap.size w w' := by
  go_enter Tryd.func11, Tryd.ntmps11
  go_wp2_with fail
  refine (H.out _).mono ?_; rintro e w1 ⟨rfl, hb⟩
  go_wp2_with fail
  go_ret
  exact ⟨rfl, ((Below.refl _ _).alloc (Nat.le_refl _) _).trans (hb.mono (by simp))⟩
theorem rcheck14_any (m s : Int) (hm : R m) (hs : R s) (w : World) :
    Calls Tryd.prog 11 #[.agg #[.int .i64 m, .int .i64 s]] w fun e w' => e = .returned (.int .i64 (chk m s)) ∧ Below w.heap.size w w' := by
  have H := fun w => rmay14_any m s hm hs w
  unfold chk
  cases h : may m s with
  | true => rw [h] at H; exact rcheck14_true m s w (Lib.hid H)
  | false => rw [h] at H; exact rcheck14_false m s w (Lib.hid H)
set_option maxRecDepth 100000 in
set_option maxHeartbeats 4000000 in
theorem rof14_any (n : Int) (w : World) :
    Calls Tryd.prog 13 #[.int .i64 n] w fun e w' => e = .returned (.agg #[.int .i64 n, .int .i64 0]) ∧ Below w.heap.size w w' := by
  go_enter Tryd.func13, Tryd.ntmps13
  go_wp2_with fail
  exact bodyPost_ret (v := .agg #[.int .i64 n, .int .i64 0]) (by simp [results, Tryd.results13, go_sem]) rfl ⟨rfl, (Below.refl _ _).alloc (Nat.le_refl _) _⟩
/-- A text with noughts ahead, until it has more bytes than s. -/
def padB (b : ByteArray) (s : Nat) : ByteArray := ⟨(List.replicate (s + 1 - b.size) 48 ++ b.data.toList).toArray⟩
theorem padB_done (b : ByteArray) (s : Nat) (h : s < b.size) : padB b s = b := by
  unfold padB
  rw [show s + 1 - b.size = 0 by omega]
  cases b; simp
theorem one_more (b : ByteArray) : ((⟨#[48]⟩ : ByteArray) ++ b).size = b.size + 1 := by rw [ByteArray.size_append]; show 1 + b.size = _; omega
theorem padB_step (b : ByteArray) (s : Nat) (h : b.size ≤ s) : padB (⟨#[48]⟩ ++ b) s = padB b s := by
  unfold padB
  rw [one_more, ByteArray.data_append, Array.toList_append]
  obtain ⟨j, hj⟩ : ∃ j, s + 1 - b.size = j + 1 := ⟨s - b.size, by omega⟩
  rw [hj, show s + 1 - (b.size + 1) = j by omega, List.replicate_succ', List.append_assoc]
set_option maxRecDepth 100000 in
set_option maxHeartbeats 4000000 in
theorem rtell14_n (m : Int) (s : Nat) (sB dB pB tB : ByteArray) (w : World) (H : Hid (∀ w, Calls Tryd.prog 38 #[.int .i64 m] w fun e w' => e = .returned (.string sB) ∧ w = w'))
    (hz : 0 < sB.size) (hz2 : sB.size ≤ 40) (hd : ((sB[0].toNat : Int) == 45) = true) (hx : sB.extract 1 sB.size = dB) (hd0 : 0 < dB.size) (hd2 : dB.size ≤ 40) (hs : s ≤ 18) (HP : Hid (padB dB s = pB)) (hp0 : pB.size ≤ 60)
    (HT : Hid ((s = 0 → (⟨#[45]⟩ : ByteArray) ++ pB = tB) ∧ (0 < s → (⟨#[45]⟩ : ByteArray) ++ pB.extract 0 (pB.size - s) ++ ⟨#[46]⟩ ++ pB.extract (pB.size - s) pB.size = tB))) :
    Calls Tryd.prog 18 #[.agg #[.int .i64 m, .int .i64 (s : Int)]] w fun e w' => e = .returned (.string tB) ∧ Below w.heap.size w w' := by
  have hsi : (s : Int) ≤ 18 := by omega
  have hzi : (0 : Int) < (sB.size : Int) := by omega
  skip
  go_enter Tryd.func18, Tryd.ntmps18
  go_wp2_with fail
  refine (H.out _).mono ?_; rintro e w1 ⟨rfl, rfl⟩
  go_wp2_with fail
  go_loop [3] (fun t => ∃ b : ByteArray, t = .string b ∧ 0 < b.size ∧ b.size ≤ 60 ∧ Hid (padB b s = pB)) (fun t => match t with | .string b => 60 - b.size | _ => 0)
  case atStart => exact ⟨_, rfl, hd0, by omega, HP⟩
  case round =>
    obtain ⟨b, rfl, hb0, hb1, HB⟩ := hrel
    by_cases hle : b.size ≤ s
    · have hlei : (b.size : Int) ≤ (s : Int) := by omega
      have HS := Lib.hid (one_more b)
      have HN : Hid (padB (⟨#[48]⟩ ++ b) s = pB) := Lib.hid ((padB_step b s hle).trans HB.out)
      have hb40 : b.size ≤ 18 := by omega
      go_wp2_with fail
      go_round
      case rel => exact ⟨_, rfl, by rw [HS.out]; omega, by rw [HS.out]; omega, HN⟩
      case measure => show 60 - (_ : ByteArray).size < 60 - b.size; rw [HS.out]; omega
    · have hbp : b = pB := (padB_done b s (by omega)).symm.trans HB.out
      subst hbp
      have hgt : ¬ ((b.size : Int) ≤ (s : Int)) := by omega
      rcases Nat.eq_zero_or_pos s with hs0 | hs0
      · subst hs0
        have HT0 := Lib.hid (HT.out.1 rfl)
        have hbe : ¬ b = ByteArray.empty := by rintro rfl; exact absurd hb0 (by decide)
        go_wp2_with fail
        go_ret
        exact ⟨retB (by first | exact HT0.out | (rw [← HT0.out]; rfl) | (rw [← HT0.out]; simp)), by go_grown⟩
      · have HT0 := Lib.hid (HT.out.2 hs0)
        have hne : ((s : Int) == 0) = false := by rw [beq_eq_false_iff_ne]; omega
        have hne2 : ¬ s = 0 := by omega
        obtain ⟨k, hk⟩ : ∃ k : Nat, b.size - s = k := ⟨_, rfl⟩
        have v1 : IntKind.i64.wrap ((b.size : Int) - (s : Int)) = (k : Int) := by rw [IntWalk.i64_in _ (by omega)]; omega
        have hk1 : (k : Int) ≤ (b.size : Int) := by omega
        have hk2 : k ≤ b.size := by omega
        have hk3 : (0 : Int) ≤ (k : Int) := by omega
        have hz1 : (b.extract 0 k).size = k := by rw [ByteArray.size_extract]; omega
        have hz3 : (b.extract k b.size).size = b.size - k := by rw [ByteArray.size_extract]; omega
        rw [hk] at HT0
        clear hk HT
        go_wp2_with fail
        go_quiet (fail)
        go_wp2_with fail
        go_ret
        exact ⟨retB (by first | exact HT0.out | (rw [← HT0.out]; simp)), by first | (go_grown; done) | exact below_drawN _ (by go_grown)⟩
set_option maxRecDepth 100000 in
set_option maxHeartbeats 4000000 in
theorem rtell14_p (m : Int) (s : Nat) (sB dB pB tB : ByteArray) (w : World) (H : Hid (∀ w, Calls Tryd.prog 38 #[.int .i64 m] w fun e w' => e = .returned (.string sB) ∧ w = w'))
    (hz : 0 < sB.size) (hz2 : sB.size ≤ 40) (hd : ((sB[0].toNat : Int) == 45) = false) (hx : sB = dB) (hd0 : 0 < dB.size) (hd2 : dB.size ≤ 40) (hs : s ≤ 18) (HP : Hid (padB dB s = pB)) (hp0 : pB.size ≤ 60)
    (HT : Hid ((s = 0 → (⟨#[]⟩ : ByteArray) ++ pB = tB) ∧ (0 < s → (⟨#[]⟩ : ByteArray) ++ pB.extract 0 (pB.size - s) ++ ⟨#[46]⟩ ++ pB.extract (pB.size - s) pB.size = tB))) :
    Calls Tryd.prog 18 #[.agg #[.int .i64 m, .int .i64 (s : Int)]] w fun e w' => e = .returned (.string tB) ∧ Below w.heap.size w w' := by
  have hsi : (s : Int) ≤ 18 := by omega
  have hzi : (0 : Int) < (sB.size : Int) := by omega
  subst hx
  go_enter Tryd.func18, Tryd.ntmps18
  go_wp2_with fail
  refine (H.out _).mono ?_; rintro e w1 ⟨rfl, rfl⟩
  go_wp2_with fail
  go_loop [3] (fun t => ∃ b : ByteArray, t = .string b ∧ 0 < b.size ∧ b.size ≤ 60 ∧ Hid (padB b s = pB)) (fun t => match t with | .string b => 60 - b.size | _ => 0)
  case atStart => exact ⟨_, rfl, hd0, by omega, HP⟩
  case round =>
    obtain ⟨b, rfl, hb0, hb1, HB⟩ := hrel
    by_cases hle : b.size ≤ s
    · have hlei : (b.size : Int) ≤ (s : Int) := by omega
      have HS := Lib.hid (one_more b)
      have HN : Hid (padB (⟨#[48]⟩ ++ b) s = pB) := Lib.hid ((padB_step b s hle).trans HB.out)
      have hb40 : b.size ≤ 18 := by omega
      go_wp2_with fail
      go_round
      case rel => exact ⟨_, rfl, by rw [HS.out]; omega, by rw [HS.out]; omega, HN⟩
      case measure => show 60 - (_ : ByteArray).size < 60 - b.size; rw [HS.out]; omega
    · have hbp : b = pB := (padB_done b s (by omega)).symm.trans HB.out
      subst hbp
      have hgt : ¬ ((b.size : Int) ≤ (s : Int)) := by omega
      rcases Nat.eq_zero_or_pos s with hs0 | hs0
      · subst hs0
        have HT0 := Lib.hid (HT.out.1 rfl)
        have hbe : ¬ b = ByteArray.empty := by rintro rfl; exact absurd hb0 (by decide)
        go_wp2_with fail
        go_ret
        exact ⟨retB (by first | exact HT0.out | (rw [← HT0.out]; rfl) | (rw [← HT0.out]; simp)), by go_grown⟩
      · have HT0 := Lib.hid (HT.out.2 hs0)
        have hne : ((s : Int) == 0) = false := by rw [beq_eq_false_iff_ne]; omega
        have hne2 : ¬ s = 0 := by omega
        obtain ⟨k, hk⟩ : ∃ k : Nat, b.size - s = k := ⟨_, rfl⟩
        have v1 : IntKind.i64.wrap ((b.size : Int) - (s : Int)) = (k : Int) := by rw [IntWalk.i64_in _ (by omega)]; omega
        have hk1 : (k : Int) ≤ (b.size : Int) := by omega
        have hk2 : k ≤ b.size := by omega
        have hk3 : (0 : Int) ≤ (k : Int) := by omega
        have hz1 : (b.extract 0 k).size = k := by rw [ByteArray.size_extract]; omega
        have hz3 : (b.extract k b.size).size = b.size - k := by rw [ByteArray.size_extract]; omega
        rw [hk] at HT0
        clear hk HT
        go_wp2_with fail
        go_quiet (fail)
        go_wp2_with fail
        go_ret
        exact ⟨retB (by first | exact HT0.out | (rw [← HT0.out]; simp)), by first | (go_grown; done) | exact below_drawN _ (by go_grown)⟩
theorem rtell14_any (m : Int) (s : Nat) (hm : R m) (hs : s ≤ 18) (w : World) :
    Calls Tryd.prog 18 #[.agg #[.int .i64 m, .int .i64 (s : Int)]] w fun e w' => e = .returned (.string ⟨(txt m s).toArray⟩) ∧ Below w.heap.size w w' := by
  have HW := Lib.hid (fun w => rwrite_any m hm w)
  have hL := dec_le m hm
  have hL1 := dec_pos m.natAbs
  have hdv := dec_all m.natAbs
  have htxt : txt m s = (if m < 0 then [45] else []) ++ (if s = 0 then pad m s else (pad m s).take ((pad m s).length - s) ++ 46 :: (pad m s).drop ((pad m s).length - s)) := rfl
  have hpad : padB ⟨(Lib.decDigits m.natAbs).toArray⟩ s = ⟨(pad m s).toArray⟩ := by unfold padB pad; rw [size_mk]
  have hpl := pad_len m s
  have hit : Lib.itoa m = (if m < 0 then [45] else []) ++ Lib.decDigits m.natAbs := by
    unfold Lib.itoa
    by_cases h : m < 0
    · rw [if_pos h, if_pos h]; rfl
    · rw [if_neg h, if_neg h, show m.toNat = m.natAbs by omega]; rfl
  have hl2 : (pad m s).length ≤ 60 := by rw [hpl]; split <;> omega
  generalize pad m s = pd at *
  generalize hdd : Lib.decDigits m.natAbs = d at *
  by_cases hn : m < 0
  · rw [if_pos hn] at hit htxt
    rw [hit] at HW
    refine rtell14_n m s ⟨([45] ++ d).toArray⟩ ⟨d.toArray⟩ ⟨pd.toArray⟩ _ w HW (by rw [size_mk]; simp) (by rw [size_mk, List.length_append]; show 1 + _ ≤ _; omega) (by rfl) (by rw [ext_mk, size_mk]; simp) (by rw [size_mk]; omega) (by rw [size_mk]; omega) hs (Lib.hid hpad) (by rw [size_mk]; exact hl2) (Lib.hid ⟨?_, ?_⟩)
    · intro h0
      rw [if_pos h0] at htxt
      rw [htxt]
      exact cat [45] pd
    · intro h0
      rw [if_neg (by omega)] at htxt
      rw [size_mk, ext_mk, ext_mk, htxt, show (⟨#[46]⟩ : ByteArray) = ⟨[46].toArray⟩ from rfl, show (⟨#[45]⟩ : ByteArray) = ⟨[45].toArray⟩ from rfl, cat, cat, cat]
      congr 2
      rw [List.drop_zero, Nat.sub_zero, List.take_of_length_le (l := List.drop (pd.length - s) pd) (by rw [List.length_drop]; omega)]
      simp
  · rw [if_neg hn] at hit htxt
    rw [hit] at HW
    obtain ⟨c, r, rfl⟩ : ∃ c r, d = c :: r := by
      cases d with
      | nil => simp at hL1
      | cons c r => exact ⟨c, r, rfl⟩
    have hc : isDig c = true := by
      have := hdv.1
      rw [List.all_cons, Bool.and_eq_true] at this
      exact this.1
    have hc2 := (dig_of c).1 hc
    refine rtell14_p m s ⟨([] ++ (c :: r)).toArray⟩ ⟨(c :: r).toArray⟩ ⟨pd.toArray⟩ _ w HW (by rw [size_mk]; simp) (by rw [size_mk, List.nil_append]; omega) (by show ((c.toNat : Int) == 45) = false; rw [beq_eq_false_iff_ne]; omega) rfl (by rw [size_mk]; omega) (by rw [size_mk]; omega) hs (Lib.hid hpad) (by rw [size_mk]; exact hl2) (Lib.hid ⟨?_, ?_⟩)
    · intro h0
      rw [if_pos h0] at htxt
      rw [htxt]
      exact cat [] pd
    · intro h0
      rw [if_neg (by omega)] at htxt
      rw [size_mk, ext_mk, ext_mk, htxt, show (⟨#[46]⟩ : ByteArray) = ⟨[46].toArray⟩ from rfl, show (⟨#[]⟩ : ByteArray) = ⟨[].toArray⟩ from rfl, cat, cat, cat]
      congr 2
      rw [List.drop_zero, Nat.sub_zero, List.take_of_length_le (l := List.drop (pd.length - s) pd) (by rw [List.length_drop]; omega)]
      simp
set_option maxRecDepth 100000 in
set_option maxHeartbeats 4000000 in
theorem rtext14_no (m s : Int) (w : World) (H : Hid (∀ w, Calls Tryd.prog 17 #[.agg #[.int .i64 m, .int .i64 s]] w fun e w' => e = .returned (.bool false) ∧ Below w.heap.size w w')) :
    Calls Tryd.prog 5 #[.agg #[.int .i64 m, .int .i64 s]] w fun e w' => e = .returned (.tuple #[.string ⟨#[]⟩, .int .i64 140]) ∧ Below w.heap.size w w' := by
  go_enter Tryd.func5, Tryd.ntmps5
  go_wp2_with fail
  refine (H.out _).mono ?_; rintro e w1 ⟨rfl, hb⟩
  go_wp2_with fail
  go_ret2
  exact ⟨rfl, ((Below.refl _ _).alloc (Nat.le_refl _) _).trans (hb.mono (by simp))⟩
set_option maxRecDepth 100000 in
set_option maxHeartbeats 4000000 in
theorem rtext14_go (m s : Int) (tB : ByteArray) (w : World) (H : Hid (∀ w, Calls Tryd.prog 17 #[.agg #[.int .i64 m, .int .i64 s]] w fun e w' => e = .returned (.bool true) ∧ Below w.heap.size w w')) (H2 : Hid (∀ w, Calls Tryd.prog 18 #[.agg #[.int .i64 m, .int .i64 s]] w fun e w' => e = .returned (.string tB) ∧ Below w.heap.size w w')) :
    Calls Tryd.prog 5 #[.agg #[.int .i64 m, .int .i64 s]] w fun e w' => e = .returned (.tuple #[.string tB, .int .i64 0]) ∧ Below w.heap.size w w' := by
  go_enter Tryd.func5, Tryd.ntmps5
  go_wp2_with fail
  refine (H.out _).mono ?_; rintro e w1 ⟨rfl, hb⟩
  obtain ⟨k1, k2, k3, k4, k5, k6⟩ := own2 hb
  clear hb
  go_wp2_with fail
  refine (H2.out _).mono ?_; rintro e w2 ⟨rfl, hb2⟩
  go_wp2_with fail
  go_ret2
  exact ⟨rfl, k6.trans (hb2.mono (by omega))⟩
theorem rtext14_any (m s : Int) (hm : R m) (hs : R s) (w : World) :
    Calls Tryd.prog 5 #[.agg #[.int .i64 m, .int .i64 s]] w fun e w' => e = .returned (.tuple #[.string ⟨(tx m s).toArray⟩, .int .i64 (chk m s)]) ∧ Below w.heap.size w w' := by
  have H := fun w => rmay14_any m s hm hs w
  cases h : may m s with
  | true =>
    rw [h] at H
    obtain ⟨s0, s1⟩ := may_bd h
    obtain ⟨j, rfl⟩ := Int.eq_ofNat_of_zero_le s0
    have e1 : tx m (j : Int) = txt m j := by unfold tx; rw [h]; rfl
    have e2 : chk m (j : Int) = 0 := by unfold chk; rw [h]; rfl
    rw [e1, e2]
    exact rtext14_go m _ _ w (Lib.hid H) (Lib.hid fun w => rtell14_any m j hm (by omega) w)
  | false =>
    rw [h] at H
    have e1 : tx m s = [] := by unfold tx; rw [h]; rfl
    have e2 : chk m s = 140 := by unfold chk; rw [h]; rfl
    rw [e1, e2]
    exact rtext14_no m s w (Lib.hid H)
end Go.Proofs.YtgljbhbpjobnbaaDoor
