/- The walks through sums and the order of Decimals (money: Add, Compare). -/
import Derived.Test.YtgljbhbpjobnbaaDoorMf
import Derived.Deep.RegionWith
set_option linter.unusedSimpArgs false
set_option linter.unusedVariables false
namespace Go.Proofs.YtgljbhbpjobnbaaDoor
open Go.RowKit
/-- A whole number's value of two words. -/
def wv (n : Int) : Value := if n < 0 then wideV 64 n.natAbs else wideV 61 n.natAbs
theorem wv_pos {n : Int} (h : 0 ≤ n) : wv n = wideV 61 n.natAbs := if_neg (by omega)
theorem wv_neg {n : Int} (h : n < 0) : wv n = wideV 64 n.natAbs := if_pos h
theorem scl_abs (m s : Int) : (scl m s).natAbs = mag m s := by
  unfold scl mag; rw [Int.natAbs_mul, Int.natAbs_pow]; rfl
theorem scl_neg (m s : Int) : scl m s < 0 ↔ m < 0 := by
  unfold scl
  have hp : (0 : Int) < 10 ^ (18 - s.toNat) := Int.pow_pos (by decide)
  constructor
  · intro h
    by_cases q : m < 0
    · exact q
    · exact absurd (Int.mul_nonneg (by omega : 0 ≤ m) (Int.le_of_lt hp)) (by omega)
  · intro h; exact Int.mul_neg_of_neg_of_pos h hp
theorem mag_bd (m s : Int) (hm : R m) : mag m s < 85070591730234615865843651857942052864 := by
  unfold mag
  have h1 : m.natAbs ≤ 9223372036854775808 := by unfold R at hm; omega
  have h2 := pow_bd (18 - s.toNat) (by omega)
  have h3 := Nat.mul_le_mul h1 h2
  omega
theorem wof_any (m s : Int) (hm : R m) (hs : 0 ≤ s) (hs2 : s ≤ 18) (w : World) :
    Calls Tryd.prog 22 #[.agg #[.int .i64 m, .int .i64 s]] w fun e w' => e = .returned (wv (scl m s)) ∧ Below w.heap.size w w' := by
  by_cases h : m < 0
  · rw [wv_neg ((scl_neg m s).2 h), scl_abs]
    exact wof_neg m s hm hs hs2 h w
  · rw [wv_pos (by have := (scl_neg m s); omega), scl_abs]
    exact wof_pos m s hm hs hs2 (by omega) w
theorem sum_any (x y : Int) (hx : x.natAbs < 85070591730234615865843651857942052864) (hy : y.natAbs < 85070591730234615865843651857942052864) (w : World) :
    Calls Tryd.prog 21 #[wv x, wv y] w fun e w' => e = .returned (wv (x + y)) ∧ Below w.heap.size w w' := by
  by_cases hx0 : x < 0
  · by_cases hy0 : y < 0
    · rw [wv_neg hx0, wv_neg hy0, wv_neg (by omega), show (x + y).natAbs = x.natAbs + y.natAbs by omega]
      exact sum_mm _ _ (by omega) (by omega) w
    · rw [wv_neg hx0, wv_pos (by omega : 0 ≤ y)]
      refine sum_mp _ _ w _ (Lib.hid fun w => ?_)
      by_cases hlt : y.natAbs < x.natAbs
      · rw [wv_neg (by omega), show (x + y).natAbs = x.natAbs - y.natAbs by omega]
        exact sum_pm_lt _ _ (by omega) (by omega) hlt w
      · rw [wv_pos (by omega), show (x + y).natAbs = y.natAbs - x.natAbs by omega]
        exact sum_pm_ge _ _ (by omega) (by omega) (by omega) w
  · by_cases hy0 : y < 0
    · rw [wv_pos (by omega : 0 ≤ x), wv_neg hy0]
      by_cases hlt : x.natAbs < y.natAbs
      · rw [wv_neg (by omega), show (x + y).natAbs = y.natAbs - x.natAbs by omega]
        exact sum_pm_lt _ _ (by omega) (by omega) hlt w
      · rw [wv_pos (by omega), show (x + y).natAbs = x.natAbs - y.natAbs by omega]
        exact sum_pm_ge _ _ (by omega) (by omega) (by omega) w
    · rw [wv_pos (by omega : 0 ≤ x), wv_pos (by omega : 0 ≤ y), wv_pos (by omega), show (x + y).natAbs = x.natAbs + y.natAbs by omega]
      exact sum_pp _ _ (by omega) (by omega) w
theorem made_any (x : Int) (hx : x.natAbs < 170141183460469231731687303715884105728) (w : World) :
    Calls Tryd.prog 20 #[wv x] w fun e w' => e = .returned (.tuple #[.agg #[.int .i64 (mdM x), .int .i64 (mdS x)], .int .i64 (mdE x)]) ∧ Below w.heap.size w w' := by
  by_cases h : x < 0
  · rw [wv_neg h]
    have := made_minus x.natAbs hx w
    rw [show -(x.natAbs : Int) = x by omega] at this
    exact this
  · rw [wv_pos (by omega)]
    have := made_plus x.natAbs hx w
    rw [show (x.natAbs : Int) = x by omega] at this
    exact this
theorem mag_abs (m s : Int) (hm : R m) : (scl m s).natAbs < 85070591730234615865843651857942052864 := by rw [scl_abs]; exact mag_bd m s hm
theorem add_fine {m s n t : Int} (h : may m s = true) (k : may n t = true) : addM m s n t = mdM (scl m s + scl n t) ∧ addS m s n t = mdS (scl m s + scl n t) ∧ addE m s n t = mdE (scl m s + scl n t) := by
  unfold addM addS addE mdM mdS mdE addOk sumN
  rw [h, k]
  simp only [Bool.and_self, if_true, Bool.true_and]
  exact ⟨trivial, trivial, trivial⟩
theorem add_bad {m s n t : Int} (h : cmpE m s n t = 140) : addM m s n t = 0 ∧ addS m s n t = 0 ∧ addE m s n t = 140 := by
  have hb : (may m s && may n t) = false := by
    cases hc : (may m s && may n t) with
    | false => rfl
    | true => unfold cmpE at h; rw [hc] at h; exact absurd h (by decide)
  unfold addM addS addE addOk
  rw [hb]; exact ⟨rfl, rfl, rfl⟩
theorem cmp_two (m s n t : Int) : (cmpE m s n t = 0 ∧ may m s = true ∧ may n t = true) ∨ cmpE m s n t = 140 := by
  unfold cmpE
  cases may m s <;> cases may n t <;> simp
/-- Three blocks of the call's own, behind a call that only makes blocks. -/
theorem keep6 {w W w1 : World} {b : Nat} {x y x' y' z z' : Value} (hb : Below W.heap.size W w1) (h : W.cell? ⟨b, 0, none⟩ = some x ∧ W.cell? ⟨b, 1, none⟩ = some y ∧ W.cell? ⟨b + 1, 0, none⟩ = some x' ∧ W.cell? ⟨b + 1, 1, none⟩ = some y' ∧ W.cell? ⟨b + 1 + 1, 0, none⟩ = some z ∧ W.cell? ⟨b + 1 + 1, 1, none⟩ = some z' ∧ W.frozen? ⟨b + 1 + 1, 0, none⟩ = false ∧ W.frozen? ⟨b + 1 + 1, 1, none⟩ = false ∧ b + 1 + 1 < W.heap.size ∧ Below w.heap.size w W) :
    w1.cell? ⟨b, 0, none⟩ = some x ∧ w1.cell? ⟨b, 1, none⟩ = some y ∧ w1.cell? ⟨b + 1, 0, none⟩ = some x' ∧ w1.cell? ⟨b + 1, 1, none⟩ = some y' ∧ w1.cell? ⟨b + 1 + 1, 0, none⟩ = some z ∧ w1.cell? ⟨b + 1 + 1, 1, none⟩ = some z' ∧ w1.frozen? ⟨b + 1 + 1, 0, none⟩ = false ∧ w1.frozen? ⟨b + 1 + 1, 1, none⟩ = false ∧ b + 1 + 1 < w1.heap.size ∧ Below w.heap.size w w1 := by
  obtain ⟨h0, h1, h2, h3, h4, h5, h6, h7, h8, h9⟩ := h
  obtain ⟨cc, ff⟩ := bcell hb
  exact ⟨(cc _ _ (by omega)).trans h0, (cc _ _ (by omega)).trans h1, (cc _ _ (by omega)).trans h2, (cc _ _ (by omega)).trans h3, (cc _ _ (by omega)).trans h4, (cc _ _ (by omega)).trans h5, (ff _ _ (by omega)).trans h6, (ff _ _ (by omega)).trans h7, Nat.lt_of_lt_of_le h8 hb.size, h9.trans (hb.mono h9.size)⟩
set_option maxRecDepth 100000 in
set_option maxHeartbeats 1000000 in
theorem madd_bad (m s n t : Int) (hm : R m) (hs : R s) (hn : R n) (ht : R t) (h : cmpE m s n t = 140) (w : World) :
    Calls Tryd.prog 6 #[.agg #[.int .i64 m, .int .i64 s], .agg #[.int .i64 n, .int .i64 t]] w fun e w' => e = .returned (.tuple #[.agg #[.int .i64 (addM m s n t), .int .i64 (addS m s n t)], .int .i64 (addE m s n t)]) ∧ Below w.heap.size w w' := by
  obtain ⟨e1, e2, e3⟩ := add_bad h
  rw [e1, e2, e3]
  have H := Lib.hid (fun w => mboth_any m s n t hm hs hn ht w)
  rw [h] at H
  clear e1 e2 e3 h hm hs hn ht
  go_enter Tryd.func6, Tryd.ntmps6
  go_wp2_with fail
  refine (H.out _).mono ?_; rintro e w1 ⟨rfl, hb1⟩
  obtain ⟨cc, ff⟩ := bcell hb1
  have hz : w.heap.size + 1 + 1 < w1.heap.size := by have := hb1.size; simp at this; omega
  go_wp2_with fail
  refine bodyPost_ret (v := .tuple #[.agg #[.int .i64 0, .int .i64 0], .int .i64 140]) (by simp [results, Tryd.results6, go_sem, *]) rfl ⟨rfl, ?_⟩
  go_grown
  refine Below.trans ?_ (hb1.mono (by simp; omega))
  go_grown
set_option maxRecDepth 100000 in
set_option maxHeartbeats 2000000 in
theorem madd_fine (m s n t : Int) (hm : R m) (hs : R s) (hn : R n) (ht : R t) (h : cmpE m s n t = 0) (h1 : may m s = true) (h2 : may n t = true) (w : World) :
    Calls Tryd.prog 6 #[.agg #[.int .i64 m, .int .i64 s], .agg #[.int .i64 n, .int .i64 t]] w fun e w' => e = .returned (.tuple #[.agg #[.int .i64 (addM m s n t), .int .i64 (addS m s n t)], .int .i64 (addE m s n t)]) ∧ Below w.heap.size w w' := by
  obtain ⟨e1, e2, e3⟩ := add_fine h1 h2
  rw [e1, e2, e3]
  have H := Lib.hid (fun w => mboth_any m s n t hm hs hn ht w)
  rw [h] at H
  have b1 := may_bd h1
  have b2 := may_bd h2
  have HA := Lib.hid (fun w => wof_any m s hm b1.1 b1.2 w)
  have HB := Lib.hid (fun w => wof_any n t hn b2.1 b2.2 w)
  have g1 := mag_abs m s hm
  have g2 := mag_abs n t hn
  have HS := Lib.hid (fun w => sum_any (scl m s) (scl n t) g1 g2 w)
  have HM := Lib.hid (fun w => made_any (scl m s + scl n t) (by omega) w)
  generalize mdM (scl m s + scl n t) = rM at *
  generalize mdS (scl m s + scl n t) = rS at *
  generalize mdE (scl m s + scl n t) = rE at *
  generalize wv (scl m s + scl n t) = v3 at *
  generalize wv (scl m s) = v1 at *
  generalize wv (scl n t) = v2 at *
  clear e1 e2 e3 h hm hs hn ht h1 h2 g1 g2 b1 b2
  go_enter Tryd.func6, Tryd.ntmps6
  go_wp2_with fail
  refine (H.out _).mono ?_; rintro e w1 ⟨rfl, hb1⟩
  obtain ⟨cc, ff⟩ := bcell hb1
  have hz : w.heap.size + 1 + 1 < w1.heap.size := by have := hb1.size; simp at this; omega
  have hbw : Below w.heap.size w w1 := by
    refine Below.trans ?_ (hb1.mono (by simp; omega))
    go_grown
  go_wp2_with fail
  obtain ⟨k1, k2, k3, k4, k5, k6, k7, k8, k9, k10⟩ : w1.drew.cell? ⟨w.heap.size, 0, none⟩ = some (.int .i64 m) ∧ w1.drew.cell? ⟨w.heap.size, 1, none⟩ = some (.int .i64 s) ∧ w1.drew.cell? ⟨w.heap.size + 1, 0, none⟩ = some (.int .i64 n) ∧ w1.drew.cell? ⟨w.heap.size + 1, 1, none⟩ = some (.int .i64 t) ∧ w1.drew.cell? ⟨w.heap.size + 1 + 1, 0, none⟩ = some (.int .i64 0) ∧ w1.drew.cell? ⟨w.heap.size + 1 + 1, 1, none⟩ = some (.int .i64 0) ∧ w1.drew.frozen? ⟨w.heap.size + 1 + 1, 0, none⟩ = false ∧ w1.drew.frozen? ⟨w.heap.size + 1 + 1, 1, none⟩ = false ∧ w.heap.size + 1 + 1 < w1.drew.heap.size ∧ Below w.heap.size w w1.drew :=
    ⟨by simp [go_sem, *], by simp [go_sem, *], by simp [go_sem, *], by simp [go_sem, *], by simp [go_sem, *], by simp [go_sem, *], by simp [go_sem, *], by simp [go_sem, *], hz, hbw.drew⟩
  clear cc ff hb1 hz hbw
  trace "region"
  go_region_with (first | ((with_reducible refine (HA.out _).mono ?_); rintro e w1 ⟨rfl, hb⟩; obtain ⟨_, _, _, _, _, _, _, _, _, _⟩ := keep6 (b := w.heap.size) (w := w) hb ⟨by assumption, by assumption, by assumption, by assumption, by assumption, by assumption, by assumption, by assumption, by assumption, by assumption⟩; clear hb) | ((with_reducible refine (HB.out _).mono ?_); rintro e w1 ⟨rfl, hb⟩; obtain ⟨_, _, _, _, _, _, _, _, _, _⟩ := keep6 (b := w.heap.size) (w := w) hb ⟨by assumption, by assumption, by assumption, by assumption, by assumption, by assumption, by assumption, by assumption, by assumption, by assumption⟩; clear hb) | ((with_reducible refine (HS.out _).mono ?_); rintro e w1 ⟨rfl, hb⟩; obtain ⟨_, _, _, _, _, _, _, _, _, _⟩ := keep6 (b := w.heap.size) (w := w) hb ⟨by assumption, by assumption, by assumption, by assumption, by assumption, by assumption, by assumption, by assumption, by assumption, by assumption⟩; clear hb) | ((with_reducible refine (HM.out _).mono ?_); rintro e w1 ⟨rfl, hb⟩; obtain ⟨_, _, _, _, _, _, _, _, _, _⟩ := keep6 (b := w.heap.size) (w := w) hb ⟨by assumption, by assumption, by assumption, by assumption, by assumption, by assumption, by assumption, by assumption, by assumption, by assumption⟩; clear hb))
  all_goals
    go_wp2_with fail
    refine bodyPost_ret (v := .tuple #[.agg #[.int .i64 rM, .int .i64 rS], .int .i64 rE]) (by simp [results, Tryd.results6, go_sem, *]) rfl ⟨rfl, ?_⟩
    go_grown
theorem madd_any (m s n t : Int) (hm : R m) (hs : R s) (hn : R n) (ht : R t) (w : World) :
    Calls Tryd.prog 6 #[.agg #[.int .i64 m, .int .i64 s], .agg #[.int .i64 n, .int .i64 t]] w fun e w' => e = .returned (.tuple #[.agg #[.int .i64 (addM m s n t), .int .i64 (addS m s n t)], .int .i64 (addE m s n t)]) ∧ Below w.heap.size w w' := by
  rcases cmp_two m s n t with ⟨h, h1, h2⟩ | h
  · exact madd_fine m s n t hm hs hn ht h h1 h2 w
  · exact madd_bad m s n t hm hs hn ht h w
end Go.Proofs.YtgljbhbpjobnbaaDoor
