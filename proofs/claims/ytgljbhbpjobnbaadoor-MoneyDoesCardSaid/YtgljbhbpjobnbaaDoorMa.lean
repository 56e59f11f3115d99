/- The walks through the small functions on Decimals (money: Check, Of, both). -/
import Derived.Test.YtgljbhbpjobnbaaDoorMp
import Derived.WalkKit
import Derived.WalkSpells
import Derived.Handy
import Derived.Lib.Hide
import Derived.Deep.Light
import Derived.Deep.RegionHeld3
import Derived.Deep.QuietTactic
import Derived.BigQuiet
import Derived.Test.YtgljbhbpjobnbaaDoorRows
import Derived.Test.YtgljbhbpjobnbaaDoorShelf
set_option linter.unusedSimpArgs false
set_option linter.unusedVariables false
namespace Go.Proofs.YtgljbhbpjobnbaaDoor
open Go.RowKit
theorem ret_im {k : IntKind} {a c : Int} (h : a = c) : Ending.returned (.int k a) = .returned (.int k c) := by rw [h]
theorem tmod_zero (m : Int) : m.tmod 10 = 0 ↔ m % 10 = 0 := by
  rcases Int.le_total 0 m with h | h
  · rw [Int.tmod_eq_emod_of_nonneg h]
  · have e : m.tmod 10 = -((-m).tmod 10) := by rw [Int.neg_tmod, Int.neg_neg]
    rw [e, Int.tmod_eq_emod_of_nonneg (by omega)]; omega
set_option maxRecDepth 100000 in
set_option maxHeartbeats 1000000 in
theorem mcheck_any (m s : Int) (hm : R m) (hs : R s) (w : World) :
    Calls Tryd.prog 10 #[.agg #[.int .i64 m, .int .i64 s]] w fun e w' => e = .returned (.int .i64 (chk m s)) ∧ Below w.heap.size w w' := by
  obtain ⟨m1, m2⟩ := hm
  obtain ⟨s1, s2⟩ := hs
  go_enter Tryd.func10, Tryd.ntmps10
  go_wp2_with fail
  all_goals
    go_ret
    refine ⟨ret_im ?_, (Below.refl _ _).alloc (Nat.le_refl _) _⟩
    go_light
    have ht := tmod_zero m
    have hc : chk m s = if 0 ≤ s ∧ s ≤ 18 ∧ (s = 0 ∨ ¬ m % 10 = 0) then 0 else 140 := by unfold chk may; simp
    rw [hc]
    clear hc
    (try simp only [beq_iff_eq, beq_eq_false_iff_ne] at *)
    split <;> omega
set_option maxRecDepth 100000 in
set_option maxHeartbeats 1000000 in
theorem mof_any (n : Int) (w : World) :
    Calls Tryd.prog 12 #[.int .i64 n] w fun e w' => e = .returned (.agg #[.int .i64 n, .int .i64 0]) ∧ Below w.heap.size w w' := by
  go_enter Tryd.func12, Tryd.ntmps12
  go_wp2_with fail
  exact bodyPost_ret (v := .agg #[.int .i64 n, .int .i64 0]) (by simp [results, Tryd.results12, go_sem]) rfl ⟨rfl, (Below.refl _ _).alloc (Nat.le_refl _) _⟩
/-- Two blocks of the call's own, behind a call that only makes blocks. -/
theorem keep4 {w W w1 : World} {b c : Nat} {x y x' y' : Value} (hb : Below W.heap.size W w1) (h : W.cell? ⟨b, 0, none⟩ = some x ∧ W.cell? ⟨b, 1, none⟩ = some y ∧ W.cell? ⟨c, 0, none⟩ = some x' ∧ W.cell? ⟨c, 1, none⟩ = some y' ∧ c < W.heap.size ∧ Below w.heap.size w W) (hw : b < c ∧ w.heap.size ≤ b) :
    w1.cell? ⟨b, 0, none⟩ = some x ∧ w1.cell? ⟨b, 1, none⟩ = some y ∧ w1.cell? ⟨c, 0, none⟩ = some x' ∧ w1.cell? ⟨c, 1, none⟩ = some y' ∧ c < w1.heap.size ∧ Below w.heap.size w w1 := by
  obtain ⟨h0, h1, h2, h3, h4, h5⟩ := h
  have hbW : b < W.heap.size := by omega
  exact ⟨(hb.cell (p := ⟨b, 0, none⟩) hbW).trans h0, (hb.cell (p := ⟨b, 1, none⟩) hbW).trans h1, (hb.cell (p := ⟨c, 0, none⟩) h4).trans h2, (hb.cell (p := ⟨c, 1, none⟩) h4).trans h3, Nat.lt_of_lt_of_le h4 hb.size, h5.trans (hb.mono h5.size)⟩
set_option maxRecDepth 100000 in
set_option maxHeartbeats 1000000 in
theorem mboth_any (m s n t : Int) (hm : R m) (hs : R s) (hn : R n) (ht : R t) (w : World) :
    Calls Tryd.prog 19 #[.agg #[.int .i64 m, .int .i64 s], .agg #[.int .i64 n, .int .i64 t]] w fun e w' => e = .returned (.int .i64 (cmpE m s n t)) ∧ Below w.heap.size w w' := by
  have H1 := Lib.hid (fun w => mcheck_any m s hm hs w)
  have H2 := Lib.hid (fun w => mcheck_any n t hn ht w)
  clear hm hs hn ht
  go_enter Tryd.func19, Tryd.ntmps19
  go_wp2_with fail
  go_region_held3 (fun W => W.cell? ⟨w.heap.size, 0, none⟩ = some (.int .i64 m) ∧ W.cell? ⟨w.heap.size, 1, none⟩ = some (.int .i64 s) ∧ W.cell? ⟨w.heap.size + 1, 0, none⟩ = some (.int .i64 n) ∧ W.cell? ⟨w.heap.size + 1, 1, none⟩ = some (.int .i64 t) ∧ w.heap.size + 1 < W.heap.size ∧ Below w.heap.size w W)
     (first | assumption | exact keep4 (by assumption) (by assumption) (by omega) | (refine ⟨by simp [go_sem], by simp [go_sem], by simp [go_sem], by simp [go_sem], by simp, ?_⟩; go_grown; done))
     (first | ((with_reducible refine (H1.out _).mono ?_); rintro e w1 ⟨rfl, hb⟩) | ((with_reducible refine (H2.out _).mono ?_); rintro e w1 ⟨rfl, hb⟩))
  all_goals
    rename_i hS
    obtain ⟨_, _, _, _, hS5, hS6⟩ := hS
    go_wp2
    all_goals
      go_ret
      refine ⟨ret_im ?_, hS6⟩
      go_light
      unfold cmpE chk at *
      cases may m s <;> cases may n t <;> first | rfl | (exfalso; simp_all; done) | (simp at *; omega)
theorem pow_bd (k : Nat) (h : k ≤ 18) : 10 ^ k ≤ 1000000000000000000 := Nat.pow_le_pow_right (by decide) h
/-- A mantissa's distance from 0, by 10 as often as its scale lacks of 18. -/
def mag (m s : Int) : Nat := m.natAbs * 10 ^ (18 - s.toNat)
/-- A number of two words, as one above 0 or below it. -/
def wideV (t : TypeId) (u : Nat) : Value := .iface t (.agg #[.int .u64 ((u / 18446744073709551616 : Nat) : Int), .int .u64 ((u % 18446744073709551616 : Nat) : Int)])
theorem wideV_of (t : TypeId) (f q u : Nat) (h : u = f * q) : Ending.returned (.iface t (.agg #[.int .u64 ((f : Int) * q / 18446744073709551616), .int .u64 ((f : Int) * q % 18446744073709551616)])) = .returned (wideV t u) := by
  subst h; unfold wideV
  rw [Int.natCast_ediv, Int.natCast_emod, Int.natCast_mul]; rfl
theorem below_drewN' (B : Nat) (w : World) (n : Nat) : Below B w (w.drewN n) := ⟨rfl, rfl, rfl, Nat.le_refl _, fun _ _ => rfl⟩
set_option maxRecDepth 100000 in
set_option maxHeartbeats 1000000 in
theorem wof_neg (m s : Int) (hm : R m) (hs : 0 ≤ s) (hs2 : s ≤ 18) (hneg : m < 0) (w : World) :
    Calls Tryd.prog 22 #[.agg #[.int .i64 m, .int .i64 s]] w fun e w' => e = .returned (wideV 64 (mag m s)) ∧ Below w.heap.size w w' := by
  obtain ⟨m1, m2⟩ := hm
  obtain ⟨j, hj⟩ : ∃ j : Nat, 18 - s = j := Int.eq_ofNat_of_zero_le (by omega)
  have hj18 : j ≤ 18 := by omega
  have HJ := Lib.hid hj
  clear hj
  obtain ⟨f, hf⟩ : ∃ f : Nat, IntKind.u64.wrap (-IntKind.u64.wrap m) = f := Int.eq_ofNat_of_zero_le (by simp only [IntKind.wrap_u64]; omega)
  have hf2 : f = m.natAbs := by simp only [IntKind.wrap_u64] at hf; omega
  have HF := Lib.hid hf
  have hfb : f ≤ 9223372036854775808 := by omega
  have HF2 := Lib.hid hf2
  clear hf hf2
  go_enter Tryd.func22, Tryd.ntmps22
  go_wp2_with fail
  go_quiet (fail)
  go_wp2_with fail
  rw [HJ.out, HF.out]
  go_loop [5, 20] (fun t i => ∃ k : Nat, k ≤ j ∧ i = .int .i64 k ∧ t = .int .u64 ((10 ^ k : Nat) : Int)) (fun _ i => j - (intOf i).toNat)
  case atStart => exact ⟨0, Nat.zero_le _, rfl, rfl⟩
  case round =>
    obtain ⟨k, hk, rfl, rfl⟩ := hrel
    have hp := pow_bd k (by omega)
    generalize hq : 10 ^ k = q at *
    have HQ := Lib.hid hq
    clear hq
    by_cases hlt : k < j
    · have hp1 := pow_bd (k + 1) (by omega)
      rw [Nat.pow_succ, HQ.out] at hp1
      go_wp2_with fail
      go_round
      case rel => exact ⟨k + 1, by omega, by go_num, by rw [Nat.pow_succ, HQ.out]; simp⟩
      case measure => simp [intOf]; omega
    · have hkj : k = j := by omega
      have HK := Lib.hid hkj
      clear hkj
      go_wp2_with fail
      refine (Tryd.bits_Mul64 f q (by omega) (by omega) _).mono ?_; rintro e w1 ⟨rfl, rfl⟩
      go_wp2
      go_ret
      refine ⟨wideV_of _ f q _ ?_, ((Below.refl _ _).alloc (Nat.le_refl _) _).trans (by exact below_drewN' _ _ _)⟩
      have h1 := HJ.out
      have h2 := HQ.out
      have h3 := HK.out
      have h4 := HF2.out
      unfold mag
      rw [show 18 - s.toNat = k by omega, h2, ← h4]
set_option maxRecDepth 100000 in
set_option maxHeartbeats 1000000 in
theorem wof_pos (m s : Int) (hm : R m) (hs : 0 ≤ s) (hs2 : s ≤ 18) (hneg : 0 ≤ m) (w : World) :
    Calls Tryd.prog 22 #[.agg #[.int .i64 m, .int .i64 s]] w fun e w' => e = .returned (wideV 61 (mag m s)) ∧ Below w.heap.size w w' := by
  obtain ⟨m1, m2⟩ := hm
  obtain ⟨j, hj⟩ : ∃ j : Nat, 18 - s = j := Int.eq_ofNat_of_zero_le (by omega)
  have hj18 : j ≤ 18 := by omega
  have HJ := Lib.hid hj
  clear hj
  obtain ⟨f, rfl⟩ := Int.eq_ofNat_of_zero_le hneg
  have hfb : f ≤ 9223372036854775807 := by omega
  go_enter Tryd.func22, Tryd.ntmps22
  go_wp2_with fail
  go_quiet (fail)
  go_wp2_with fail
  rw [HJ.out]
  go_loop [5, 20] (fun t i => ∃ k : Nat, k ≤ j ∧ i = .int .i64 k ∧ t = .int .u64 ((10 ^ k : Nat) : Int)) (fun _ i => j - (intOf i).toNat)
  case atStart => exact ⟨0, Nat.zero_le _, rfl, rfl⟩
  case round =>
    obtain ⟨k, hk, rfl, rfl⟩ := hrel
    have hp := pow_bd k (by omega)
    generalize hq : 10 ^ k = q at *
    have HQ := Lib.hid hq
    clear hq
    by_cases hlt : k < j
    · have hp1 := pow_bd (k + 1) (by omega)
      rw [Nat.pow_succ, HQ.out] at hp1
      go_wp2_with fail
      go_round
      case rel => exact ⟨k + 1, by omega, by go_num, by rw [Nat.pow_succ, HQ.out]; simp⟩
      case measure => simp [intOf]; omega
    · have hkj : k = j := by omega
      have HK := Lib.hid hkj
      clear hkj
      go_wp2_with fail
      refine (Tryd.bits_Mul64 f q (by omega) (by omega) _).mono ?_; rintro e w1 ⟨rfl, rfl⟩
      go_wp2
      go_ret
      refine ⟨wideV_of _ f q _ ?_, ((Below.refl _ _).alloc (Nat.le_refl _) _).trans (by exact below_drewN' _ _ _)⟩
      have h1 := HJ.out
      have h2 := HQ.out
      have h3 := HK.out
      unfold mag
      rw [show 18 - s.toNat = k by omega, h2]; rfl
end Go.Proofs.YtgljbhbpjobnbaaDoor
