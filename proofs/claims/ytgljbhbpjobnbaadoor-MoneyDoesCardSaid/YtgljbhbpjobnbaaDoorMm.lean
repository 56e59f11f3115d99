/- The walk through a Decimal's text (money: Text; strings.Repeat at one nought). -/
import Derived.Test.YtgljbhbpjobnbaaDoorShelg
import Derived.Test.YtgljbhbpjobnbaaDoorMj
set_option linter.unusedSimpArgs false
set_option linter.unusedVariables false
namespace Go.Proofs.YtgljbhbpjobnbaaDoor
open Go.RowKit
theorem hp0 (p : ByteArray) (b : Bool) (h : Lib.hasPrefix p.data.toList [48] = b) (w : World) :
    Calls Tryd.prog 33 #[.string p, .string ⟨#[48]⟩] w fun e w' => e = .returned (.bool b) ∧ w = w' :=
  (Tryd.strings_HasPrefix p ⟨#[48]⟩ w).mono fun e w' ⟨a, c⟩ => ⟨by rw [a, show (⟨#[48]⟩ : ByteArray).data.toList = [48] from rfl, h], c.symm⟩
theorem mul1_any (k : Nat) (hk : k ≤ 1000) (w : World) :
    Calls Tryd.prog 32 #[.int .u64 1, .int .u64 k] w fun e w' => e = .returned (.tuple #[.int .u64 0, .int .u64 k]) ∧ w = w' := by
  have H : Hid (∀ w, Calls Tryd.prog 42 #[.int .u64 1, .int .u64 k] w fun e w' => e = .returned (.tuple #[.int .u64 0, .int .u64 k]) ∧ w = w') :=
    Lib.hid fun w => (Tryd.bits_Mul64 1 k (by omega) (by omega) w).mono fun e w' ⟨a, b⟩ => ⟨by rw [a]; exact ret_i2 (by omega) (by omega), b.symm⟩
  go_enter Tryd.func32, Tryd.ntmps32
  go_wp2_with fail
  refine (H.out _).mono ?_; rintro e w1 ⟨rfl, rfl⟩
  go_wp2_with fail
  go_ret2
  exact ⟨rfl, rfl⟩
theorem zeros_fin : ∀ i : Fin 65, (⟨#[48, 48, 48, 48, 48, 48, 48, 48, 48, 48, 48, 48, 48, 48, 48, 48, 48, 48, 48, 48, 48, 48, 48, 48, 48, 48, 48, 48, 48, 48, 48, 48, 48, 48, 48, 48, 48, 48, 48, 48, 48, 48, 48, 48, 48, 48, 48, 48, 48, 48, 48, 48, 48, 48, 48, 48, 48, 48, 48, 48, 48, 48, 48, 48]⟩ : ByteArray).extract 0 i.val = ⟨(List.replicate i.val 48).toArray⟩ := by decide +kernel
set_option maxRecDepth 100000 in
set_option maxHeartbeats 2000000 in
theorem repeat0_any (k : Nat) (hk : k ≤ 40) (w : World) :
    Calls Tryd.prog 16 #[.string ⟨#[48]⟩, .int .i64 k] w fun e w' => e = .returned (.string ⟨(List.replicate k 48).toArray⟩) ∧ w = w' := by
  rcases Nat.lt_trichotomy k 1 with h | h | h
  · obtain rfl : k = 0 := by omega
    go_enter Tryd.func16, Tryd.ntmps16
    go_wp2_with fail
    go_ret
    exact ⟨rfl, rfl⟩
  · subst h
    go_enter Tryd.func16, Tryd.ntmps16
    go_wp2_with fail
    go_ret
    exact ⟨rfl, rfl⟩
  · have H := Lib.hid (fun w => mul1_any k (by omega) w)
    have hz : (⟨#[48, 48, 48, 48, 48, 48, 48, 48, 48, 48, 48, 48, 48, 48, 48, 48, 48, 48, 48, 48, 48, 48, 48, 48, 48, 48, 48, 48, 48, 48, 48, 48, 48, 48, 48, 48, 48, 48, 48, 48, 48, 48, 48, 48, 48, 48, 48, 48, 48, 48, 48, 48, 48, 48, 48, 48, 48, 48, 48, 48, 48, 48, 48, 48]⟩ : ByteArray).extract 0 k = ⟨(List.replicate k 48).toArray⟩ := zeros_fin ⟨k, by omega⟩
    have HZ := Lib.hid hz
    clear hz
    generalize (⟨(List.replicate k 48).toArray⟩ : ByteArray) = zB at *
    have h0 : ((k : Int) == 0) = false := by rw [beq_eq_false_iff_ne]; omega
    have h1 : ((k : Int) == 1) = false := by rw [beq_eq_false_iff_ne]; omega
    go_enter Tryd.func16, Tryd.ntmps16
    go_wp2_with fail
    refine (H.out _).mono ?_; rintro e w1 ⟨rfl, rfl⟩
    go_wp2_with fail
    refine (hp0 _ false (by decide +kernel) _).mono ?_; rintro e w1 ⟨rfl, rfl⟩
    go_wp2_with fail
    refine (hp0 _ false (by decide +kernel) _).mono ?_; rintro e w1 ⟨rfl, rfl⟩
    go_wp2_with fail
    refine (hp0 _ true (by decide +kernel) _).mono ?_; rintro e w1 ⟨rfl, rfl⟩
    go_wp2_with fail
    go_ret
    exact ⟨retB HZ.out, rfl⟩
/-! ### Text -/
theorem itoa_parts (m : Int) : below (Lib.itoa m) = decide (m < 0) ∧ body (Lib.itoa m) = Lib.decDigits m.natAbs := by
  by_cases h : m < 0
  · rw [decide_eq_true h]
    have e : Lib.itoa m = 45 :: Lib.decDigits m.natAbs := by unfold Lib.itoa; rw [if_pos h]
    rw [e]; exact ⟨rfl, rfl⟩
  · rw [decide_eq_false h]
    have e : Lib.itoa m = Lib.decDigits m.natAbs := by unfold Lib.itoa; rw [if_neg h, show m.toNat = m.natAbs by omega]
    have hb := dec_notdash m.natAbs
    rw [e]; exact ⟨hb, body_id _ hb⟩
theorem dec_le (m : Int) (hr : R m) : (Lib.decDigits m.natAbs).length ≤ 20 := by
  refine dec_len _ 20 (by omega) ?_
  unfold R at hr
  have : m.natAbs ≤ 9223372036854775808 := by omega
  exact Nat.lt_of_le_of_lt this (by decide)
set_option maxRecDepth 100000 in
set_option maxHeartbeats 1000000 in
theorem mtext_bad (m s : Int) (hm : R m) (hs : R s) (h : may m s = false) (w : World) :
    Calls Tryd.prog 4 #[.agg #[.int .i64 m, .int .i64 s]] w fun e w' => e = .returned (.tuple #[.string ⟨#[]⟩, .int .i64 140]) ∧ Below w.heap.size w w' := by
  have H := Lib.hid (fun w => mcheck_any m s hm hs w)
  rw [show chk m s = 140 by unfold chk; rw [h]; rfl] at H
  clear h hm hs
  go_enter Tryd.func4, Tryd.ntmps4
  go_wp2_with fail
  refine (H.out _).mono ?_; rintro e w1 ⟨rfl, hb1⟩
  go_wp2_with fail
  go_ret2
  refine ⟨rfl, ?_⟩
  refine Below.trans ?_ (hb1.mono (by simp))
  go_grown
theorem ret_t {a b : ByteArray} {n : Int} (h : a = b) : Ending.returned (.tuple #[.string a, .int .i64 n]) = .returned (.tuple #[.string b, .int .i64 n]) := by rw [h]
set_option maxRecDepth 100000 in
set_option maxHeartbeats 1000000 in
theorem mtext_0p (m s : Int) (iB dB zB : ByteArray) (w : World)
    (H : Hid (∀ w, Calls Tryd.prog 10 #[.agg #[.int .i64 m, .int .i64 s]] w fun e w' => e = .returned (.int .i64 0) ∧ Below w.heap.size w w'))
    (HW : Hid (∀ w, EnvT w → Calls Tryd.prog 15 #[.int .i64 m] w fun e w' => e = .returned (.string iB) ∧ Below w.heap.size w w'))
    (HC : Hid (∀ w, Calls Tryd.prog 14 #[.string iB, .string ⟨#[45]⟩] w fun e w' => e = .returned (.tuple #[.string dB, .bool false]) ∧ w = w'))
    (HZ : Hid (∀ w, Calls Tryd.prog 16 #[.string ⟨#[48]⟩, .int .i64 0] w fun e w' => e = .returned (.string zB) ∧ w = w'))
    (he : EnvT w) (hd : dB.size ≤ 20) (hz : zB.size = 0) (hp : s + 1 - dB.size ≤ 0) (s0 : s = 0) (tB : ByteArray) (HT : Hid ((zB ++ dB) = tB)) :
    Calls Tryd.prog 4 #[.agg #[.int .i64 m, .int .i64 s]] w fun e w' => e = .returned (.tuple #[.string tB, .int .i64 0]) ∧ Below w.heap.size w w' := by
  subst s0
  have hzk : (zB.size : Int) ≤ 18 := by omega
  have HZ0 := Lib.hid hz
  clear hz
  have hmx : max (0 : Int) (1 - dB.size) = 0 := by omega
  go_enter Tryd.func4, Tryd.ntmps4
  go_wp2_with fail
  refine (H.out _).mono ?_; rintro e w1 ⟨rfl, hb1⟩
  obtain ⟨c0, c1, f0, f1, hz1, hbw⟩ := own2 hb1
  go_wp2_with fail
  refine ((HW.out _ (he.stays hbw)).mono ?_); rintro e w2 ⟨rfl, hb2⟩
  have hk2 := keep1 hb2 ⟨c0, c1, f0, f1, hz1, hbw⟩
  clear c0 c1 f0 f1 hz1 hbw hb1 hb2
  obtain ⟨c0, c1, f0, f1, hz1, hbw⟩ := hk2
  go_wp2_with fail
  refine (HC.out _).mono ?_; rintro e w3 ⟨rfl, rfl⟩
  go_wp2_with fail
  refine (HZ.out _).mono ?_; rintro e w3 ⟨rfl, rfl⟩
  go_wp2_with fail
  go_ret2
  refine ⟨ret_t ?_, ?_⟩
  · exact HT.out
  · exact hbw
set_option maxRecDepth 100000 in
set_option maxHeartbeats 1000000 in
theorem mtext_1p (m s : Int) (iB dB zB : ByteArray) (k : Nat) (w : World)
    (H : Hid (∀ w, Calls Tryd.prog 10 #[.agg #[.int .i64 m, .int .i64 s]] w fun e w' => e = .returned (.int .i64 0) ∧ Below w.heap.size w w'))
    (HW : Hid (∀ w, EnvT w → Calls Tryd.prog 15 #[.int .i64 m] w fun e w' => e = .returned (.string iB) ∧ Below w.heap.size w w'))
    (HC : Hid (∀ w, Calls Tryd.prog 14 #[.string iB, .string ⟨#[45]⟩] w fun e w' => e = .returned (.tuple #[.string dB, .bool false]) ∧ w = w'))
    (HZ : Hid (∀ w, Calls Tryd.prog 16 #[.string ⟨#[48]⟩, .int .i64 k] w fun e w' => e = .returned (.string zB) ∧ w = w'))
    (he : EnvT w) (hd : dB.size ≤ 20) (hz : zB.size ≤ 18) (hk : k ≤ 18) (hp : s + 1 - dB.size = k) (s0 : 0 < s) (s1 : s ≤ 18) (n : Nat) (hn : (zB.size : Int) + dB.size - s = n) (hn2 : n ≤ zB.size + dB.size) (tB : ByteArray) (HT : Hid ((zB ++ dB).extract 0 n ++ ⟨#[46]⟩ ++ (zB ++ dB).extract n (zB.size + dB.size) = tB)) :
    Calls Tryd.prog 4 #[.agg #[.int .i64 m, .int .i64 s]] w fun e w' => e = .returned (.tuple #[.string tB, .int .i64 0]) ∧ Below w.heap.size w w' := by
  have hzk : (zB.size : Int) ≤ 18 := by omega
  have n1 : (n : Int) ≤ (zB.size : Int) + dB.size := by omega
  have n2 : (n : Int) ≤ 40 := by omega
  go_enter Tryd.func4, Tryd.ntmps4
  go_wp2_with fail
  refine (H.out _).mono ?_; rintro e w1 ⟨rfl, hb1⟩
  obtain ⟨c0, c1, f0, f1, hz1, hbw⟩ := own2 hb1
  go_wp2_with fail
  refine ((HW.out _ (he.stays hbw)).mono ?_); rintro e w2 ⟨rfl, hb2⟩
  have hk2 := keep1 hb2 ⟨c0, c1, f0, f1, hz1, hbw⟩
  clear c0 c1 f0 f1 hz1 hbw hb1 hb2
  obtain ⟨c0, c1, f0, f1, hz1, hbw⟩ := hk2
  go_wp2_with fail
  refine (HC.out _).mono ?_; rintro e w3 ⟨rfl, rfl⟩
  go_wp2_with fail
  refine (HZ.out _).mono ?_; rintro e w3 ⟨rfl, rfl⟩
  go_wp2_with fail
  go_quiet (fail)
  go_wp2_with fail
  go_ret2
  refine ⟨ret_t ?_, ?_⟩
  · exact HT.out
  · exact below_drawN _ hbw
set_option maxRecDepth 100000 in
set_option maxHeartbeats 1000000 in
theorem mtext_2p (m s : Int) (iB dB zB : ByteArray) (w : World)
    (H : Hid (∀ w, Calls Tryd.prog 10 #[.agg #[.int .i64 m, .int .i64 s]] w fun e w' => e = .returned (.int .i64 0) ∧ Below w.heap.size w w'))
    (HW : Hid (∀ w, EnvT w → Calls Tryd.prog 15 #[.int .i64 m] w fun e w' => e = .returned (.string iB) ∧ Below w.heap.size w w'))
    (HC : Hid (∀ w, Calls Tryd.prog 14 #[.string iB, .string ⟨#[45]⟩] w fun e w' => e = .returned (.tuple #[.string dB, .bool false]) ∧ w = w'))
    (HZ : Hid (∀ w, Calls Tryd.prog 16 #[.string ⟨#[48]⟩, .int .i64 0] w fun e w' => e = .returned (.string zB) ∧ w = w'))
    (he : EnvT w) (hd : dB.size ≤ 20) (hz : zB.size = 0) (hp : s + 1 - dB.size ≤ 0) (s0 : 0 < s) (s1 : s ≤ 18) (n : Nat) (hn : (zB.size : Int) + dB.size - s = n) (hn2 : n ≤ zB.size + dB.size) (tB : ByteArray) (HT : Hid ((zB ++ dB).extract 0 n ++ ⟨#[46]⟩ ++ (zB ++ dB).extract n (zB.size + dB.size) = tB)) :
    Calls Tryd.prog 4 #[.agg #[.int .i64 m, .int .i64 s]] w fun e w' => e = .returned (.tuple #[.string tB, .int .i64 0]) ∧ Below w.heap.size w w' := by
  have hzk : (zB.size : Int) ≤ 18 := by omega
  have HZ0 := Lib.hid hz
  clear hz
  have hmx : max (0 : Int) (s + 1 - dB.size) = 0 := by omega
  have n1 : (n : Int) ≤ (zB.size : Int) + dB.size := by omega
  have n2 : (n : Int) ≤ 40 := by omega
  go_enter Tryd.func4, Tryd.ntmps4
  go_wp2_with fail
  refine (H.out _).mono ?_; rintro e w1 ⟨rfl, hb1⟩
  obtain ⟨c0, c1, f0, f1, hz1, hbw⟩ := own2 hb1
  go_wp2_with fail
  refine ((HW.out _ (he.stays hbw)).mono ?_); rintro e w2 ⟨rfl, hb2⟩
  have hk2 := keep1 hb2 ⟨c0, c1, f0, f1, hz1, hbw⟩
  clear c0 c1 f0 f1 hz1 hbw hb1 hb2
  obtain ⟨c0, c1, f0, f1, hz1, hbw⟩ := hk2
  go_wp2_with fail
  refine (HC.out _).mono ?_; rintro e w3 ⟨rfl, rfl⟩
  go_wp2_with fail
  refine (HZ.out _).mono ?_; rintro e w3 ⟨rfl, rfl⟩
  go_wp2_with fail
  go_quiet (fail)
  go_wp2_with fail
  go_ret2
  refine ⟨ret_t ?_, ?_⟩
  · exact HT.out
  · exact below_drawN _ hbw
set_option maxRecDepth 100000 in
set_option maxHeartbeats 1000000 in
theorem mtext_0n (m s : Int) (iB dB zB : ByteArray) (w : World)
    (H : Hid (∀ w, Calls Tryd.prog 10 #[.agg #[.int .i64 m, .int .i64 s]] w fun e w' => e = .returned (.int .i64 0) ∧ Below w.heap.size w w'))
    (HW : Hid (∀ w, EnvT w → Calls Tryd.prog 15 #[.int .i64 m] w fun e w' => e = .returned (.string iB) ∧ Below w.heap.size w w'))
    (HC : Hid (∀ w, Calls Tryd.prog 14 #[.string iB, .string ⟨#[45]⟩] w fun e w' => e = .returned (.tuple #[.string dB, .bool true]) ∧ w = w'))
    (HZ : Hid (∀ w, Calls Tryd.prog 16 #[.string ⟨#[48]⟩, .int .i64 0] w fun e w' => e = .returned (.string zB) ∧ w = w'))
    (he : EnvT w) (hd : dB.size ≤ 20) (hz : zB.size = 0) (hp : s + 1 - dB.size ≤ 0) (s0 : s = 0) (tB : ByteArray) (HT : Hid (⟨#[45]⟩ ++ (zB ++ dB) = tB)) :
    Calls Tryd.prog 4 #[.agg #[.int .i64 m, .int .i64 s]] w fun e w' => e = .returned (.tuple #[.string tB, .int .i64 0]) ∧ Below w.heap.size w w' := by
  subst s0
  have hzk : (zB.size : Int) ≤ 18 := by omega
  have HZ0 := Lib.hid hz
  clear hz
  have hmx : max (0 : Int) (1 - dB.size) = 0 := by omega
  go_enter Tryd.func4, Tryd.ntmps4
  go_wp2_with fail
  refine (H.out _).mono ?_; rintro e w1 ⟨rfl, hb1⟩
  obtain ⟨c0, c1, f0, f1, hz1, hbw⟩ := own2 hb1
  go_wp2_with fail
  refine ((HW.out _ (he.stays hbw)).mono ?_); rintro e w2 ⟨rfl, hb2⟩
  have hk2 := keep1 hb2 ⟨c0, c1, f0, f1, hz1, hbw⟩
  clear c0 c1 f0 f1 hz1 hbw hb1 hb2
  obtain ⟨c0, c1, f0, f1, hz1, hbw⟩ := hk2
  go_wp2_with fail
  refine (HC.out _).mono ?_; rintro e w3 ⟨rfl, rfl⟩
  go_wp2_with fail
  refine (HZ.out _).mono ?_; rintro e w3 ⟨rfl, rfl⟩
  go_wp2_with fail
  go_ret2
  refine ⟨ret_t ?_, ?_⟩
  · exact HT.out
  · exact hbw
set_option maxRecDepth 100000 in
set_option maxHeartbeats 1000000 in
theorem mtext_1n (m s : Int) (iB dB zB : ByteArray) (k : Nat) (w : World)
    (H : Hid (∀ w, Calls Tryd.prog 10 #[.agg #[.int .i64 m, .int .i64 s]] w fun e w' => e = .returned (.int .i64 0) ∧ Below w.heap.size w w'))
    (HW : Hid (∀ w, EnvT w → Calls Tryd.prog 15 #[.int .i64 m] w fun e w' => e = .returned (.string iB) ∧ Below w.heap.size w w'))
    (HC : Hid (∀ w, Calls Tryd.prog 14 #[.string iB, .string ⟨#[45]⟩] w fun e w' => e = .returned (.tuple #[.string dB, .bool true]) ∧ w = w'))
    (HZ : Hid (∀ w, Calls Tryd.prog 16 #[.string ⟨#[48]⟩, .int .i64 k] w fun e w' => e = .returned (.string zB) ∧ w = w'))
    (he : EnvT w) (hd : dB.size ≤ 20) (hz : zB.size ≤ 18) (hk : k ≤ 18) (hp : s + 1 - dB.size = k) (s0 : 0 < s) (s1 : s ≤ 18) (n : Nat) (hn : (zB.size : Int) + dB.size - s = n) (hn2 : n ≤ zB.size + dB.size) (tB : ByteArray) (HT : Hid (⟨#[45]⟩ ++ ((zB ++ dB).extract 0 n ++ ⟨#[46]⟩ ++ (zB ++ dB).extract n (zB.size + dB.size)) = tB)) :
    Calls Tryd.prog 4 #[.agg #[.int .i64 m, .int .i64 s]] w fun e w' => e = .returned (.tuple #[.string tB, .int .i64 0]) ∧ Below w.heap.size w w' := by
  have hzk : (zB.size : Int) ≤ 18 := by omega
  have n1 : (n : Int) ≤ (zB.size : Int) + dB.size := by omega
  have n2 : (n : Int) ≤ 40 := by omega
  go_enter Tryd.func4, Tryd.ntmps4
  go_wp2_with fail
  refine (H.out _).mono ?_; rintro e w1 ⟨rfl, hb1⟩
  obtain ⟨c0, c1, f0, f1, hz1, hbw⟩ := own2 hb1
  go_wp2_with fail
  refine ((HW.out _ (he.stays hbw)).mono ?_); rintro e w2 ⟨rfl, hb2⟩
  have hk2 := keep1 hb2 ⟨c0, c1, f0, f1, hz1, hbw⟩
  clear c0 c1 f0 f1 hz1 hbw hb1 hb2
  obtain ⟨c0, c1, f0, f1, hz1, hbw⟩ := hk2
  go_wp2_with fail
  refine (HC.out _).mono ?_; rintro e w3 ⟨rfl, rfl⟩
  go_wp2_with fail
  refine (HZ.out _).mono ?_; rintro e w3 ⟨rfl, rfl⟩
  go_wp2_with fail
  go_quiet (fail)
  go_wp2_with fail
  go_ret2
  refine ⟨ret_t ?_, ?_⟩
  · exact HT.out
  · exact below_drawN _ hbw
set_option maxRecDepth 100000 in
set_option maxHeartbeats 1000000 in
theorem mtext_2n (m s : Int) (iB dB zB : ByteArray) (w : World)
    (H : Hid (∀ w, Calls Tryd.prog 10 #[.agg #[.int .i64 m, .int .i64 s]] w fun e w' => e = .returned (.int .i64 0) ∧ Below w.heap.size w w'))
    (HW : Hid (∀ w, EnvT w → Calls Tryd.prog 15 #[.int .i64 m] w fun e w' => e = .returned (.string iB) ∧ Below w.heap.size w w'))
    (HC : Hid (∀ w, Calls Tryd.prog 14 #[.string iB, .string ⟨#[45]⟩] w fun e w' => e = .returned (.tuple #[.string dB, .bool true]) ∧ w = w'))
    (HZ : Hid (∀ w, Calls Tryd.prog 16 #[.string ⟨#[48]⟩, .int .i64 0] w fun e w' => e = .returned (.string zB) ∧ w = w'))
    (he : EnvT w) (hd : dB.size ≤ 20) (hz : zB.size = 0) (hp : s + 1 - dB.size ≤ 0) (s0 : 0 < s) (s1 : s ≤ 18) (n : Nat) (hn : (zB.size : Int) + dB.size - s = n) (hn2 : n ≤ zB.size + dB.size) (tB : ByteArray) (HT : Hid (⟨#[45]⟩ ++ ((zB ++ dB).extract 0 n ++ ⟨#[46]⟩ ++ (zB ++ dB).extract n (zB.size + dB.size)) = tB)) :
    Calls Tryd.prog 4 #[.agg #[.int .i64 m, .int .i64 s]] w fun e w' => e = .returned (.tuple #[.string tB, .int .i64 0]) ∧ Below w.heap.size w w' := by
  have hzk : (zB.size : Int) ≤ 18 := by omega
  have HZ0 := Lib.hid hz
  clear hz
  have hmx : max (0 : Int) (s + 1 - dB.size) = 0 := by omega
  have n1 : (n : Int) ≤ (zB.size : Int) + dB.size := by omega
  have n2 : (n : Int) ≤ 40 := by omega
  go_enter Tryd.func4, Tryd.ntmps4
  go_wp2_with fail
  refine (H.out _).mono ?_; rintro e w1 ⟨rfl, hb1⟩
  obtain ⟨c0, c1, f0, f1, hz1, hbw⟩ := own2 hb1
  go_wp2_with fail
  refine ((HW.out _ (he.stays hbw)).mono ?_); rintro e w2 ⟨rfl, hb2⟩
  have hk2 := keep1 hb2 ⟨c0, c1, f0, f1, hz1, hbw⟩
  clear c0 c1 f0 f1 hz1 hbw hb1 hb2
  obtain ⟨c0, c1, f0, f1, hz1, hbw⟩ := hk2
  go_wp2_with fail
  refine (HC.out _).mono ?_; rintro e w3 ⟨rfl, rfl⟩
  go_wp2_with fail
  refine (HZ.out _).mono ?_; rintro e w3 ⟨rfl, rfl⟩
  go_wp2_with fail
  go_quiet (fail)
  go_wp2_with fail
  go_ret2
  refine ⟨ret_t ?_, ?_⟩
  · exact HT.out
  · exact below_drawN _ hbw
end Go.Proofs.YtgljbhbpjobnbaaDoor
