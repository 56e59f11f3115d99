/- The walk through the order of Decimals (money: Compare). -/
import Derived.Test.YtgljbhbpjobnbaaDoorMg
set_option linter.unusedSimpArgs false
set_option linter.unusedVariables false
namespace Go.Proofs.YtgljbhbpjobnbaaDoor
open Go.RowKit
theorem field_wide (p q : Int) (w : World) : (Instr.field 64 (.agg #[.int .u64 p, .int .u64 q]) 0).run Tryd.prog w = .ok (.agg #[.int .u64 p, .int .u64 q]) w := by kernel_rfl
theorem cmp_fine {m s n t : Int} (h : may m s = true) (k : may n t = true) : cmpV m s n t = cmpI (scl m s) (scl n t) ∧ cmpE m s n t = 0 := by
  unfold cmpV cmpE; rw [h, k]; exact ⟨rfl, rfl⟩
theorem cmp_bad {m s n t : Int} (h : cmpE m s n t = 140) : cmpV m s n t = 0 := by
  unfold cmpV cmpE at *
  cases hc : (may m s && may n t) with
  | false => rfl
  | true => rw [hc] at h; exact absurd h (by decide)
theorem scl_pos_abs {m s : Int} (h : 0 ≤ m) : scl m s = mag m s := by
  have := scl_abs m s; have := scl_neg m s; omega
theorem scl_neg_abs {m s : Int} (h : m < 0) : scl m s = -(mag m s : Int) := by
  have := scl_abs m s; have := scl_neg m s; omega
theorem cmpI_minus (a b : Int) : cmpI (-a) (-b) = cmpI b a := by unfold cmpI; repeat' split
                                                                 all_goals omega
theorem than_mag (x y p q p' q' : Nat) (hx : x < 85070591730234615865843651857942052864) (hy : y < 85070591730234615865843651857942052864) (h1 : x = p * 18446744073709551616 + q) (h2 : y = p' * 18446744073709551616 + q') (hq : q < 18446744073709551616) (hq' : q' < 18446744073709551616) (w : World) :
    Calls Tryd.prog 28 #[.agg #[.int .u64 p, .int .u64 q], .agg #[.int .u64 p', .int .u64 q']] w fun e w' => e = .returned (.int .i64 (cmpI x y)) ∧ Below w.heap.size w w' := by
  subst h1; subst h2
  exact than_two p q p' q' hq hq' w
theorem wof_words (m s : Int) (hm : R m) (hs : 0 ≤ s) (hs2 : s ≤ 18) (t : TypeId) (ht : wv (scl m s) = wideV t (mag m s)) : ∃ p q : Nat, mag m s = p * 18446744073709551616 + q ∧ q < 18446744073709551616 ∧ Hid (∀ w, Calls Tryd.prog 22 #[.agg #[.int .i64 m, .int .i64 s]] w fun e w' => e = .returned (.iface t (.agg #[.int .u64 p, .int .u64 q])) ∧ Below w.heap.size w w') := by
  have hb := mag_bd m s hm
  obtain ⟨p, q, h1, h2, _, h4⟩ := two_part (mag m s) (by omega)
  refine ⟨p, q, h2, h4, Lib.hid fun w => ?_⟩
  have := wof_any m s hm hs hs2 w
  rw [ht, (iface_words h1).out] at this
  exact this
set_option maxRecDepth 100000 in
set_option maxHeartbeats 1000000 in
theorem mcmp_bad (m s n t : Int) (hm : R m) (hs : R s) (hn : R n) (ht : R t) (h : cmpE m s n t = 140) (w : World) :
    Calls Tryd.prog 8 #[.agg #[.int .i64 m, .int .i64 s], .agg #[.int .i64 n, .int .i64 t]] w fun e w' => e = .returned (.tuple #[.int .i64 (cmpV m s n t), .int .i64 (cmpE m s n t)]) ∧ Below w.heap.size w w' := by
  have H := Lib.hid (fun w => mboth_any m s n t hm hs hn ht w)
  rw [cmp_bad h]
  rw [h] at H ⊢
  clear h hm hs hn ht
  go_enter Tryd.func8, Tryd.ntmps8
  go_wp2_with fail
  refine (H.out _).mono ?_; rintro e w1 ⟨rfl, hb1⟩
  go_wp2_with fail
  go_ret2
  refine ⟨rfl, ?_⟩
  refine Below.trans ?_ (hb1.mono (by simp; omega))
  go_grown
/-- Two blocks of the call's own, side by side, behind a call that only makes blocks. -/
theorem keepA {w W w1 : World} {b : Nat} {x y x' y' : Value} (hb : Below W.heap.size W w1) (h : W.cell? ⟨b, 0, none⟩ = some x ∧ W.cell? ⟨b, 1, none⟩ = some y ∧ W.cell? ⟨b + 1, 0, none⟩ = some x' ∧ W.cell? ⟨b + 1, 1, none⟩ = some y' ∧ b + 1 < W.heap.size ∧ Below w.heap.size w W) :
    w1.cell? ⟨b, 0, none⟩ = some x ∧ w1.cell? ⟨b, 1, none⟩ = some y ∧ w1.cell? ⟨b + 1, 0, none⟩ = some x' ∧ w1.cell? ⟨b + 1, 1, none⟩ = some y' ∧ b + 1 < w1.heap.size ∧ Below w.heap.size w w1 := by
  obtain ⟨h0, h1, h2, h3, h4, h5⟩ := h
  obtain ⟨cc, ff⟩ := bcell hb
  exact ⟨(cc _ _ (by omega)).trans h0, (cc _ _ (by omega)).trans h1, (cc _ _ (by omega)).trans h2, (cc _ _ (by omega)).trans h3, Nat.lt_of_lt_of_le h4 hb.size, h5.trans (hb.mono h5.size)⟩
set_option maxRecDepth 100000 in
set_option maxHeartbeats 2000000 in
theorem mcmp_pp (m s n t : Int) (hm : R m) (hs : R s) (hn : R n) (ht : R t) (g1 : may m s = true) (g2 : may n t = true) (ca : 0 ≤ m) (cb : 0 ≤ n) (w : World) :
    Calls Tryd.prog 8 #[.agg #[.int .i64 m, .int .i64 s], .agg #[.int .i64 n, .int .i64 t]] w fun e w' => e = .returned (.tuple #[.int .i64 (cmpV m s n t), .int .i64 (cmpE m s n t)]) ∧ Below w.heap.size w w' := by
  have H := Lib.hid (fun w => mboth_any m s n t hm hs hn ht w)
  have hr : cmpI (scl m s) (scl n t) = cmpI (mag m s) (mag n t) := by rw [scl_pos_abs ca, scl_pos_abs cb]
  rw [(cmp_fine g1 g2).1, hr]
  rw [(cmp_fine g1 g2).2] at H ⊢
  have b1 := may_bd g1
  have b2 := may_bd g2
  obtain ⟨p, q, h1, hq, HA⟩ := wof_words m s hm b1.1 b1.2 61 (by rw [wv_pos (by have := scl_neg m s; omega), scl_abs])
  obtain ⟨p2, q2, h2, hq2, HB⟩ := wof_words n t hn b2.1 b2.2 61 (by rw [wv_pos (by have := scl_neg n t; omega), scl_abs])
  have HT := Lib.hid (fun w => than_mag _ _ p q p2 q2 (mag_bd m s hm) (mag_bd n t hn) h1 h2 hq hq2 w)
  generalize cmpI (mag m s) (mag n t) = rC at *
  clear hr g1 g2 b1 b2 h1 h2 hm hs hn ht ca cb
  have t1 := plus_plus
  go_enter Tryd.func8, Tryd.ntmps8
  go_wp2_with fail
  refine (H.out _).mono ?_; rintro e w1 ⟨rfl, hb1⟩
  obtain ⟨cc, ff⟩ := bcell hb1
  have hz : w.heap.size + 1 < w1.heap.size := by have := hb1.size; simp at this; omega
  have hbw : Below w.heap.size w w1 := by
    refine Below.trans ?_ (hb1.mono (by simp; omega))
    go_grown
  have d1 : w1.cell? ⟨w.heap.size, 0, none⟩ = some (.int .i64 m) := by simp [go_sem, *]
  have d2 : w1.cell? ⟨w.heap.size, 1, none⟩ = some (.int .i64 s) := by simp [go_sem, *]
  have d3 : w1.cell? ⟨w.heap.size + 1, 0, none⟩ = some (.int .i64 n) := by simp [go_sem, *]
  have d4 : w1.cell? ⟨w.heap.size + 1, 1, none⟩ = some (.int .i64 t) := by simp [go_sem, *]
  clear cc ff hb1
  go_wp2_with fail
  refine (HA.out _).mono ?_; rintro e w2 ⟨rfl, hb2⟩
  have y1 := keepA hb2 ⟨d1, d2, d3, d4, hz, hbw⟩
  clear d1 d2 d3 d4 hz hbw hb2
  obtain ⟨d1, d2, d3, d4, hz, hbw⟩ := y1
  have hz0 : w.heap.size < w2.heap.size := by omega
  go_wp2_with fail
  refine (HB.out _).mono ?_; rintro e w3 ⟨rfl, hb3⟩
  obtain ⟨cc, ff⟩ := bcell hb3
  have hz3 : w2.heap.size < w3.heap.size := by have := hb3.size; simp at this; omega
  have hzz : w.heap.size + 1 < w3.heap.size := by omega
  have hz00 : w.heap.size < w3.heap.size := by omega
  have hbw3 : Below w.heap.size w w3 := by
    refine Below.trans ?_ (hb3.mono (by simp; omega))
    go_grown
  have e1 : w3.cell? ⟨w.heap.size, 0, none⟩ = some (.int .i64 m) := by rw [cc _ _ (by simp; omega)]; simp [go_sem, *]
  have e2 : w3.cell? ⟨w.heap.size, 1, none⟩ = some (.int .i64 s) := by rw [cc _ _ (by simp; omega)]; simp [go_sem, *]
  have e3 : w3.cell? ⟨w.heap.size + 1, 0, none⟩ = some (.int .i64 n) := by rw [cc _ _ (by simp; omega)]; simp [go_sem, *]
  have e4 : w3.cell? ⟨w.heap.size + 1, 1, none⟩ = some (.int .i64 t) := by rw [cc _ _ (by simp; omega)]; simp [go_sem, *]
  have e5 : w3.cell? ⟨w2.heap.size, 0, none⟩ = some (.int .u64 p) := by rw [cc _ _ (by simp)]; simp [go_sem, *]
  have e6 : w3.cell? ⟨w2.heap.size, 1, none⟩ = some (.int .u64 q) := by rw [cc _ _ (by simp)]; simp [go_sem, *]
  clear cc ff d1 d2 d3 d4 hz hbw hb3
  go_wp2_with fail
  refine (HT.out _).mono ?_; rintro e w4 ⟨rfl, hb4⟩
  go_wp2_with fail
  go_ret2
  refine ⟨rfl, ?_⟩
  refine Below.trans ?_ (hb4.mono (by simp; omega))
  go_grown
set_option maxRecDepth 100000 in
set_option maxHeartbeats 2000000 in
theorem mcmp_pm (m s n t : Int) (hm : R m) (hs : R s) (hn : R n) (ht : R t) (g1 : may m s = true) (g2 : may n t = true) (ca : 0 ≤ m) (cb : n < 0) (w : World) :
    Calls Tryd.prog 8 #[.agg #[.int .i64 m, .int .i64 s], .agg #[.int .i64 n, .int .i64 t]] w fun e w' => e = .returned (.tuple #[.int .i64 (cmpV m s n t), .int .i64 (cmpE m s n t)]) ∧ Below w.heap.size w w' := by
  have H := Lib.hid (fun w => mboth_any m s n t hm hs hn ht w)
  have hr : cmpI (scl m s) (scl n t) = 1 := by have := scl_neg m s; have := scl_neg n t; unfold cmpI; rw [if_neg (by omega), if_neg (by omega)]
  rw [(cmp_fine g1 g2).1, hr]
  rw [(cmp_fine g1 g2).2] at H ⊢
  have b1 := may_bd g1
  have b2 := may_bd g2
  obtain ⟨p, q, h1, hq, HA⟩ := wof_words m s hm b1.1 b1.2 61 (by rw [wv_pos (by have := scl_neg m s; omega), scl_abs])
  obtain ⟨p2, q2, h2, hq2, HB⟩ := wof_words n t hn b2.1 b2.2 64 (by rw [wv_neg ((scl_neg n t).2 (by assumption)), scl_abs])
  
  
  clear hr g1 g2 b1 b2 h1 h2 hm hs hn ht ca cb
  have t1 := plus_plus
  have t2 := minus_plus
  go_enter Tryd.func8, Tryd.ntmps8
  go_wp2_with fail
  refine (H.out _).mono ?_; rintro e w1 ⟨rfl, hb1⟩
  obtain ⟨cc, ff⟩ := bcell hb1
  have hz : w.heap.size + 1 < w1.heap.size := by have := hb1.size; simp at this; omega
  have hbw : Below w.heap.size w w1 := by
    refine Below.trans ?_ (hb1.mono (by simp; omega))
    go_grown
  have d1 : w1.cell? ⟨w.heap.size, 0, none⟩ = some (.int .i64 m) := by simp [go_sem, *]
  have d2 : w1.cell? ⟨w.heap.size, 1, none⟩ = some (.int .i64 s) := by simp [go_sem, *]
  have d3 : w1.cell? ⟨w.heap.size + 1, 0, none⟩ = some (.int .i64 n) := by simp [go_sem, *]
  have d4 : w1.cell? ⟨w.heap.size + 1, 1, none⟩ = some (.int .i64 t) := by simp [go_sem, *]
  clear cc ff hb1
  go_wp2_with fail
  refine (HA.out _).mono ?_; rintro e w2 ⟨rfl, hb2⟩
  have y1 := keepA hb2 ⟨d1, d2, d3, d4, hz, hbw⟩
  clear d1 d2 d3 d4 hz hbw hb2
  obtain ⟨d1, d2, d3, d4, hz, hbw⟩ := y1
  have hz0 : w.heap.size < w2.heap.size := by omega
  go_wp2_with fail
  refine (HB.out _).mono ?_; rintro e w3 ⟨rfl, hb3⟩
  obtain ⟨cc, ff⟩ := bcell hb3
  have hz3 : w2.heap.size < w3.heap.size := by have := hb3.size; simp at this; omega
  have hzz : w.heap.size + 1 < w3.heap.size := by omega
  have hz00 : w.heap.size < w3.heap.size := by omega
  have hbw3 : Below w.heap.size w w3 := by
    refine Below.trans ?_ (hb3.mono (by simp; omega))
    go_grown
  have e1 : w3.cell? ⟨w.heap.size, 0, none⟩ = some (.int .i64 m) := by rw [cc _ _ (by simp; omega)]; simp [go_sem, *]
  have e2 : w3.cell? ⟨w.heap.size, 1, none⟩ = some (.int .i64 s) := by rw [cc _ _ (by simp; omega)]; simp [go_sem, *]
  have e3 : w3.cell? ⟨w.heap.size + 1, 0, none⟩ = some (.int .i64 n) := by rw [cc _ _ (by simp; omega)]; simp [go_sem, *]
  have e4 : w3.cell? ⟨w.heap.size + 1, 1, none⟩ = some (.int .i64 t) := by rw [cc _ _ (by simp; omega)]; simp [go_sem, *]
  have e5 : w3.cell? ⟨w2.heap.size, 0, none⟩ = some (.int .u64 p) := by rw [cc _ _ (by simp)]; simp [go_sem, *]
  have e6 : w3.cell? ⟨w2.heap.size, 1, none⟩ = some (.int .u64 q) := by rw [cc _ _ (by simp)]; simp [go_sem, *]
  clear cc ff d1 d2 d3 d4 hz hbw hb3
  go_wp2_with fail
  go_ret2
  refine ⟨rfl, ?_⟩
  go_grown
set_option maxRecDepth 100000 in
set_option maxHeartbeats 2000000 in
theorem mcmp_mp (m s n t : Int) (hm : R m) (hs : R s) (hn : R n) (ht : R t) (g1 : may m s = true) (g2 : may n t = true) (ca : m < 0) (cb : 0 ≤ n) (w : World) :
    Calls Tryd.prog 8 #[.agg #[.int .i64 m, .int .i64 s], .agg #[.int .i64 n, .int .i64 t]] w fun e w' => e = .returned (.tuple #[.int .i64 (cmpV m s n t), .int .i64 (cmpE m s n t)]) ∧ Below w.heap.size w w' := by
  have H := Lib.hid (fun w => mboth_any m s n t hm hs hn ht w)
  have hr : cmpI (scl m s) (scl n t) = (-1) := by have := scl_neg m s; have := scl_neg n t; unfold cmpI; rw [if_pos (by omega)]
  rw [(cmp_fine g1 g2).1, hr]
  rw [(cmp_fine g1 g2).2] at H ⊢
  have b1 := may_bd g1
  have b2 := may_bd g2
  obtain ⟨p, q, h1, hq, HA⟩ := wof_words m s hm b1.1 b1.2 64 (by rw [wv_neg ((scl_neg m s).2 (by assumption)), scl_abs])
  obtain ⟨p2, q2, h2, hq2, HB⟩ := wof_words n t hn b2.1 b2.2 61 (by rw [wv_pos (by have := scl_neg n t; omega), scl_abs])
  
  
  clear hr g1 g2 b1 b2 h1 h2 hm hs hn ht ca cb
  have t1 := plus_plus
  have t2 := minus_plus
  go_enter Tryd.func8, Tryd.ntmps8
  go_wp2_with fail
  refine (H.out _).mono ?_; rintro e w1 ⟨rfl, hb1⟩
  obtain ⟨cc, ff⟩ := bcell hb1
  have hz : w.heap.size + 1 < w1.heap.size := by have := hb1.size; simp at this; omega
  have hbw : Below w.heap.size w w1 := by
    refine Below.trans ?_ (hb1.mono (by simp; omega))
    go_grown
  have d1 : w1.cell? ⟨w.heap.size, 0, none⟩ = some (.int .i64 m) := by simp [go_sem, *]
  have d2 : w1.cell? ⟨w.heap.size, 1, none⟩ = some (.int .i64 s) := by simp [go_sem, *]
  have d3 : w1.cell? ⟨w.heap.size + 1, 0, none⟩ = some (.int .i64 n) := by simp [go_sem, *]
  have d4 : w1.cell? ⟨w.heap.size + 1, 1, none⟩ = some (.int .i64 t) := by simp [go_sem, *]
  clear cc ff hb1
  go_wp2_with fail
  refine (HA.out _).mono ?_; rintro e w2 ⟨rfl, hb2⟩
  have y1 := keepA hb2 ⟨d1, d2, d3, d4, hz, hbw⟩
  clear d1 d2 d3 d4 hz hbw hb2
  obtain ⟨d1, d2, d3, d4, hz, hbw⟩ := y1
  have hz0 : w.heap.size < w2.heap.size := by omega
  go_wp2_with fail
  refine (HB.out _).mono ?_; rintro e w3 ⟨rfl, hb3⟩
  obtain ⟨cc, ff⟩ := bcell hb3
  have hz3 : w2.heap.size < w3.heap.size := by have := hb3.size; simp at this; omega
  have hzz : w.heap.size + 1 < w3.heap.size := by omega
  have hz00 : w.heap.size < w3.heap.size := by omega
  have hbw3 : Below w.heap.size w w3 := by
    refine Below.trans ?_ (hb3.mono (by simp; omega))
    go_grown
  have e1 : w3.cell? ⟨w.heap.size, 0, none⟩ = some (.int .i64 m) := by rw [cc _ _ (by simp; omega)]; simp [go_sem, *]
  have e2 : w3.cell? ⟨w.heap.size, 1, none⟩ = some (.int .i64 s) := by rw [cc _ _ (by simp; omega)]; simp [go_sem, *]
  have e3 : w3.cell? ⟨w.heap.size + 1, 0, none⟩ = some (.int .i64 n) := by rw [cc _ _ (by simp; omega)]; simp [go_sem, *]
  have e4 : w3.cell? ⟨w.heap.size + 1, 1, none⟩ = some (.int .i64 t) := by rw [cc _ _ (by simp; omega)]; simp [go_sem, *]
  have e5 : w3.cell? ⟨w2.heap.size, 0, none⟩ = some (.int .u64 0) := by rw [cc _ _ (by simp)]; simp [go_sem, *]
  have e6 : w3.cell? ⟨w2.heap.size, 1, none⟩ = some (.int .u64 0) := by rw [cc _ _ (by simp)]; simp [go_sem, *]
  clear cc ff d1 d2 d3 d4 hz hbw hb3
  go_wp2_with fail
  go_ret2
  refine ⟨rfl, ?_⟩
  go_grown
set_option maxRecDepth 100000 in
set_option maxHeartbeats 2000000 in
theorem mcmp_mm (m s n t : Int) (hm : R m) (hs : R s) (hn : R n) (ht : R t) (g1 : may m s = true) (g2 : may n t = true) (ca : m < 0) (cb : n < 0) (w : World) :
    Calls Tryd.prog 8 #[.agg #[.int .i64 m, .int .i64 s], .agg #[.int .i64 n, .int .i64 t]] w fun e w' => e = .returned (.tuple #[.int .i64 (cmpV m s n t), .int .i64 (cmpE m s n t)]) ∧ Below w.heap.size w w' := by
  have H := Lib.hid (fun w => mboth_any m s n t hm hs hn ht w)
  have hr : cmpI (scl m s) (scl n t) = cmpI (mag n t) (mag m s) := by rw [scl_neg_abs ca, scl_neg_abs cb, cmpI_minus]
  rw [(cmp_fine g1 g2).1, hr]
  rw [(cmp_fine g1 g2).2] at H ⊢
  have b1 := may_bd g1
  have b2 := may_bd g2
  obtain ⟨p, q, h1, hq, HA⟩ := wof_words m s hm b1.1 b1.2 64 (by rw [wv_neg ((scl_neg m s).2 (by assumption)), scl_abs])
  obtain ⟨p2, q2, h2, hq2, HB⟩ := wof_words n t hn b2.1 b2.2 64 (by rw [wv_neg ((scl_neg n t).2 (by assumption)), scl_abs])
  have HT := Lib.hid (fun w => than_mag _ _ p2 q2 p q (mag_bd n t hn) (mag_bd m s hm) h2 h1 hq2 hq w)
  generalize cmpI (mag n t) (mag m s) = rC at *
  clear hr g1 g2 b1 b2 h1 h2 hm hs hn ht ca cb
  have t2 := minus_plus
  have t3 := is_minus
  have t4 := field_wide
  go_enter Tryd.func8, Tryd.ntmps8
  go_wp2_with fail
  refine (H.out _).mono ?_; rintro e w1 ⟨rfl, hb1⟩
  obtain ⟨cc, ff⟩ := bcell hb1
  have hz : w.heap.size + 1 < w1.heap.size := by have := hb1.size; simp at this; omega
  have hbw : Below w.heap.size w w1 := by
    refine Below.trans ?_ (hb1.mono (by simp; omega))
    go_grown
  have d1 : w1.cell? ⟨w.heap.size, 0, none⟩ = some (.int .i64 m) := by simp [go_sem, *]
  have d2 : w1.cell? ⟨w.heap.size, 1, none⟩ = some (.int .i64 s) := by simp [go_sem, *]
  have d3 : w1.cell? ⟨w.heap.size + 1, 0, none⟩ = some (.int .i64 n) := by simp [go_sem, *]
  have d4 : w1.cell? ⟨w.heap.size + 1, 1, none⟩ = some (.int .i64 t) := by simp [go_sem, *]
  clear cc ff hb1
  go_wp2_with fail
  refine (HA.out _).mono ?_; rintro e w2 ⟨rfl, hb2⟩
  have y1 := keepA hb2 ⟨d1, d2, d3, d4, hz, hbw⟩
  clear d1 d2 d3 d4 hz hbw hb2
  obtain ⟨d1, d2, d3, d4, hz, hbw⟩ := y1
  have hz0 : w.heap.size < w2.heap.size := by omega
  go_wp2_with fail
  refine (HB.out _).mono ?_; rintro e w3 ⟨rfl, hb3⟩
  obtain ⟨cc, ff⟩ := bcell hb3
  have hz3 : w2.heap.size < w3.heap.size := by have := hb3.size; simp at this; omega
  have hzz : w.heap.size + 1 < w3.heap.size := by omega
  have hz00 : w.heap.size < w3.heap.size := by omega
  have hbw3 : Below w.heap.size w w3 := by
    refine Below.trans ?_ (hb3.mono (by simp; omega))
    go_grown
  have e1 : w3.cell? ⟨w.heap.size, 0, none⟩ = some (.int .i64 m) := by rw [cc _ _ (by simp; omega)]; simp [go_sem, *]
  have e2 : w3.cell? ⟨w.heap.size, 1, none⟩ = some (.int .i64 s) := by rw [cc _ _ (by simp; omega)]; simp [go_sem, *]
  have e3 : w3.cell? ⟨w.heap.size + 1, 0, none⟩ = some (.int .i64 n) := by rw [cc _ _ (by simp; omega)]; simp [go_sem, *]
  have e4 : w3.cell? ⟨w.heap.size + 1, 1, none⟩ = some (.int .i64 t) := by rw [cc _ _ (by simp; omega)]; simp [go_sem, *]
  have e5 : w3.cell? ⟨w2.heap.size, 0, none⟩ = some (.int .u64 0) := by rw [cc _ _ (by simp)]; simp [go_sem, *]
  have e6 : w3.cell? ⟨w2.heap.size, 1, none⟩ = some (.int .u64 0) := by rw [cc _ _ (by simp)]; simp [go_sem, *]
  clear cc ff d1 d2 d3 d4 hz hbw hb3
  go_wp2_with fail
  go_region_held3 (fun W => W.cell? ⟨w.heap.size, 0, none⟩ = some (.int .i64 m) ∧ W.cell? ⟨w.heap.size, 1, none⟩ = some (.int .i64 s) ∧ W.cell? ⟨w.heap.size + 1, 0, none⟩ = some (.int .i64 n) ∧ W.cell? ⟨w.heap.size + 1, 1, none⟩ = some (.int .i64 t) ∧ w.heap.size + 1 < W.heap.size ∧ Below w.heap.size w W)
     (first | assumption | exact keepA (by assumption) (by assumption) | (refine ⟨by simp [go_sem, *], by simp [go_sem, *], by simp [go_sem, *], by simp [go_sem, *], by simp; omega, ?_⟩; go_grown; done))
     (first | ((with_reducible refine (HA.out _).mono ?_); rintro e w1 ⟨rfl, hb⟩) | ((with_reducible refine (HB.out _).mono ?_); rintro e w1 ⟨rfl, hb⟩) | ((with_reducible refine (HT.out _).mono ?_); rintro e w1 ⟨rfl, hb⟩))
  all_goals
    rename_i hS
    obtain ⟨_, _, _, _, _, hS6⟩ := hS
    go_wp2
    go_ret2
    exact ⟨rfl, hS6⟩
theorem mcmp_any (m s n t : Int) (hm : R m) (hs : R s) (hn : R n) (ht : R t) (w : World) :
    Calls Tryd.prog 8 #[.agg #[.int .i64 m, .int .i64 s], .agg #[.int .i64 n, .int .i64 t]] w fun e w' => e = .returned (.tuple #[.int .i64 (cmpV m s n t), .int .i64 (cmpE m s n t)]) ∧ Below w.heap.size w w' := by
  rcases cmp_two m s n t with ⟨h, h1, h2⟩ | h
  · by_cases ca : m < 0
    · by_cases cb : n < 0
      · exact mcmp_mm m s n t hm hs hn ht h1 h2 ca cb w
      · exact mcmp_mp m s n t hm hs hn ht h1 h2 ca (by omega) w
    · by_cases cb : n < 0
      · exact mcmp_pm m s n t hm hs hn ht h1 h2 (by omega) cb w
      · exact mcmp_pp m s n t hm hs hn ht h1 h2 (by omega) (by omega) w
  · exact mcmp_bad m s n t hm hs hn ht h w
end Go.Proofs.YtgljbhbpjobnbaaDoor
