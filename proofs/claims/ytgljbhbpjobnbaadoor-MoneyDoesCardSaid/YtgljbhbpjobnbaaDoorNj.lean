/- The reference's Order and Compare at every two Decimals (provostref14). -/
import Derived.Test.YtgljbhbpjobnbaaDoorNi
set_option linter.unusedSimpArgs false
set_option linter.unusedVariables false
namespace Go.Proofs.YtgljbhbpjobnbaaDoor
open Go.RowKit
theorem money_eql14 (a b c d : Int) (w : World) : (binOp .eql 23 (.agg #[.int .i64 a, .int .i64 b]) (.agg #[.int .i64 c, .int .i64 d])).run Tryd.prog w = .ok (.bool (a == c && b == d)) w := by
  simp [go_sem]
  by_cases h : a = c <;> by_cases h2 : b = d <;> simp [h, h2]
theorem scl_mag (m s : Int) : scl m s = if m < 0 then -(mag m s : Int) else (mag m s : Int) := by
  unfold scl mag
  rw [Int.natCast_mul, Int.natCast_pow]
  by_cases h : m < 0
  · rw [if_pos h, ← Int.neg_mul, show m = -(m.natAbs : Int) by omega]
    congr 1
    omega
  · rw [if_neg h]
    congr 1
    omega
theorem mag_lt (m s : Int) (hm : R m) : mag m s < 10 ^ 38 := by
  unfold mag
  have h1 : m.natAbs ≤ 9223372036854775808 := by unfold R at hm; omega
  have h2 := pow_bd (18 - s.toNat) (by omega)
  have h3 := Nat.mul_le_mul h1 h2
  have h4 : (9223372036854775808 * 1000000000000000000 : Nat) < 10 ^ 38 := by decide
  omega
theorem rrow_any (m s : Int) (hm : R m) (h : may m s = true) (w : World) :
    Calls Tryd.prog 23 #[.agg #[.int .i64 m, .int .i64 s]] w fun e w' => e = .returned (.tuple #[.agg (rowV (mag m s)), .bool (decide (m < 0))]) ∧ Below w.heap.size w w' := by
  obtain ⟨h0, h1⟩ := may_bd h
  by_cases hn : m < 0
  · rw [decide_eq_true hn]; exact rrow_neg m s hm h0 h1 hn w
  · rw [decide_eq_false hn]; exact rrow_pos m s hm h0 h1 (by omega) w
theorem rorder14_any (m s n t : Int) (hm : R m) (hn : R n) (h : may m s = true) (k : may n t = true) (w : World) :
    Calls Tryd.prog 29 #[.agg #[.int .i64 m, .int .i64 s], .agg #[.int .i64 n, .int .i64 t]] w fun e w' => e = .returned (.int .i64 (cmpI (scl m s) (scl n t))) ∧ Below w.heap.size w w' := by
  have H1 := fun w => rrow_any m s hm h w
  have H2 := fun w => rrow_any n t hn k w
  have H3 := fun w => rless_any (mag m s) (mag n t) (Nat.lt_trans (mag_lt m s hm) (by decide)) (Nat.lt_trans (mag_lt n t hn) (by decide)) w
  have hq := fun w => money_eql14 m s n t w
  have e1 := scl_mag m s
  have e2 := scl_mag n t
  have hi := fun e => scl_inj h k e
  have heq : m = n ∧ s = t → scl m s = scl n t := by rintro ⟨rfl, rfl⟩; rfl
  have hne : m < 0 → ¬ scl m s = 0 := fun p q => by
    have := Int.mul_eq_zero.1 (show m * 10 ^ (18 - s.toNat) = 0 from q)
    rcases this with z | z
    · omega
    · exact absurd z (by have : (0 : Int) < 10 ^ (18 - s.toNat) := Int.pow_pos (by decide); omega)
  generalize mag m s = u at *
  generalize mag n t = v at *
  generalize scl m s = x at *
  generalize scl n t = y at *
  have hqe : ∀ (b : Bool), (b = true ↔ m = n ∧ s = t) → ∀ w, (binOp .eql 23 (.agg #[.int .i64 m, .int .i64 s]) (.agg #[.int .i64 n, .int .i64 t])).run Tryd.prog w = .ok (.bool b) w := fun b hb w => by
    rw [hq w]
    congr 2
    rw [Bool.eq_iff_iff, hb, Bool.and_eq_true, beq_iff_eq, beq_iff_eq]
  by_cases he : x = y
  · have hc : cmpI x y = 0 := by unfold cmpI; rw [if_neg (by omega), if_pos he]
    have hqt := hqe true ⟨fun _ => hi he, fun _ => rfl⟩
    have hmn := (hi he).1
    rw [hc]
    by_cases p : m < 0
    · rw [decide_eq_true p] at H1
      rw [decide_eq_true (by omega : n < 0)] at H2
      exact rord_et m s n t u v w (Lib.hid H1) (Lib.hid H2) hqt
    · rw [decide_eq_false p] at H1
      rw [decide_eq_false (by omega : ¬ n < 0)] at H2
      exact rord_ef m s n t u v w (Lib.hid H1) (Lib.hid H2) hqt
  · have hqf := hqe false ⟨fun q => (by cases q), fun q => absurd (heq q) he⟩
    by_cases p : m < 0
    · rw [decide_eq_true p] at H1
      rw [if_pos p] at e1
      by_cases q : n < 0
      · rw [decide_eq_true q] at H2
        rw [if_pos q] at e2
        by_cases l : u < v
        · rw [decide_eq_true l] at H3
          rw [show cmpI x y = 1 by unfold cmpI; rw [if_neg (by omega), if_neg he]]
          exact rord_tt m s n t u v w (Lib.hid H1) (Lib.hid H2) (Lib.hid H3) hqf
        · rw [decide_eq_false l] at H3
          rw [show cmpI x y = -1 by unfold cmpI; rw [if_pos (by omega)]]
          exact rord_ft m s n t u v w (Lib.hid H1) (Lib.hid H2) (Lib.hid H3) hqf
      · rw [decide_eq_false q] at H2
        rw [if_neg q] at e2
        rw [show cmpI x y = -1 by unfold cmpI; rw [if_pos (by omega)]]
        exact rord_st m s n t u v w (Lib.hid H1) (Lib.hid H2) hqf
    · rw [decide_eq_false p] at H1
      rw [if_neg p] at e1
      by_cases q : n < 0
      · rw [decide_eq_true q] at H2
        rw [if_pos q] at e2
        rw [show cmpI x y = 1 by unfold cmpI; rw [if_neg (by omega), if_neg he]]
        exact rord_sf m s n t u v w (Lib.hid H1) (Lib.hid H2) hqf
      · rw [decide_eq_false q] at H2
        rw [if_neg q] at e2
        by_cases l : u < v
        · rw [decide_eq_true l] at H3
          rw [show cmpI x y = -1 by unfold cmpI; rw [if_pos (by omega)]]
          exact rord_tf m s n t u v w (Lib.hid H1) (Lib.hid H2) (Lib.hid H3) hqf
        · rw [decide_eq_false l] at H3
          rw [show cmpI x y = 1 by unfold cmpI; rw [if_neg (by omega), if_neg he]]
          exact rord_ff m s n t u v w (Lib.hid H1) (Lib.hid H2) (Lib.hid H3) hqf
set_option maxRecDepth 100000 in
set_option maxHeartbeats 4000000 in
theorem rcmp14_a (m s n t : Int) (w : World) (H1 : Hid (∀ w, Calls Tryd.prog 17 #[.agg #[.int .i64 m, .int .i64 s]] w fun e w' => e = .returned (.bool false) ∧ Below w.heap.size w w')) :
    Calls Tryd.prog 9 #[.agg #[.int .i64 m, .int .i64 s], .agg #[.int .i64 n, .int .i64 t]] w fun e w' => e = .returned (.tuple #[.int .i64 0, .int .i64 140]) ∧ Below w.heap.size w w' := by
  go_enter Tryd.func9, Tryd.ntmps9
  go_wp2_with fail
  refine (H1.out _).mono ?_; rintro e w1 ⟨rfl, hb⟩
  have hh0 : w1.heap[w.heap.size]? = some (.cells #[.int .i64 m, .int .i64 s] 23 (0, 0)) := (hb.block _ (by first | omega | (simp; done) | (simp; omega))).trans (heap_old (o' := (.cells #[.int .i64 n, .int .i64 t] 23 (0, 0))) (heap_new _ _ _ (by first | rfl | simp)))
  have hh1 : w1.heap[w.heap.size + 1]? = some (.cells #[.int .i64 n, .int .i64 t] 23 (0, 0)) := (hb.block _ (by first | omega | (simp; done) | (simp; omega))).trans (heap_new _ _ _ (by first | rfl | simp))
  have hbw1 : Below w.heap.size w w1 := (show Below w.heap.size w _ by first | exact Below.refl _ _ | (go_grown; done)).trans (hb.mono (by first | omega | (simp; done) | (simp; omega)))
  clear hb
  have HH0_1 := Lib.hid hh0
  have lt0 := heap_lt hh0
  have c0_0 : w1.cell? ⟨w.heap.size, 0, none⟩ = some (.int .i64 m) := by rw [Lib.cell_of_heap hh0]; rfl
  have c0_1 : w1.cell? ⟨w.heap.size, 1, none⟩ = some (.int .i64 s) := by rw [Lib.cell_of_heap hh0]; rfl
  clear hh0
  have HH1_1 := Lib.hid hh1
  have lt1 := heap_lt hh1
  have c1_0 : w1.cell? ⟨w.heap.size + 1, 0, none⟩ = some (.int .i64 n) := by rw [Lib.cell_of_heap hh1]; rfl
  have c1_1 : w1.cell? ⟨w.heap.size + 1, 1, none⟩ = some (.int .i64 t) := by rw [Lib.cell_of_heap hh1]; rfl
  clear hh1
  have sz1 := hbw1.size
  have HW1 := Lib.hid hbw1
  go_wp2_with fail
  go_ret2
  exact ⟨rfl, by first | exact HW1.out | (go_grown; done)⟩
set_option maxRecDepth 100000 in
set_option maxHeartbeats 4000000 in
theorem rcmp14_b (m s n t : Int) (w : World) (H1 : Hid (∀ w, Calls Tryd.prog 17 #[.agg #[.int .i64 m, .int .i64 s]] w fun e w' => e = .returned (.bool true) ∧ Below w.heap.size w w')) (H2 : Hid (∀ w, Calls Tryd.prog 17 #[.agg #[.int .i64 n, .int .i64 t]] w fun e w' => e = .returned (.bool false) ∧ Below w.heap.size w w')) :
    Calls Tryd.prog 9 #[.agg #[.int .i64 m, .int .i64 s], .agg #[.int .i64 n, .int .i64 t]] w fun e w' => e = .returned (.tuple #[.int .i64 0, .int .i64 140]) ∧ Below w.heap.size w w' := by
  go_enter Tryd.func9, Tryd.ntmps9
  go_wp2_with fail
  refine (H1.out _).mono ?_; rintro e w1 ⟨rfl, hb⟩
  have hh0 : w1.heap[w.heap.size]? = some (.cells #[.int .i64 m, .int .i64 s] 23 (0, 0)) := (hb.block _ (by first | omega | (simp; done) | (simp; omega))).trans (heap_old (o' := (.cells #[.int .i64 n, .int .i64 t] 23 (0, 0))) (heap_new _ _ _ (by first | rfl | simp)))
  have hh1 : w1.heap[w.heap.size + 1]? = some (.cells #[.int .i64 n, .int .i64 t] 23 (0, 0)) := (hb.block _ (by first | omega | (simp; done) | (simp; omega))).trans (heap_new _ _ _ (by first | rfl | simp))
  have hbw1 : Below w.heap.size w w1 := (show Below w.heap.size w _ by first | exact Below.refl _ _ | (go_grown; done)).trans (hb.mono (by first | omega | (simp; done) | (simp; omega)))
  clear hb
  have HH0_1 := Lib.hid hh0
  have lt0 := heap_lt hh0
  have c0_0 : w1.cell? ⟨w.heap.size, 0, none⟩ = some (.int .i64 m) := by rw [Lib.cell_of_heap hh0]; rfl
  have c0_1 : w1.cell? ⟨w.heap.size, 1, none⟩ = some (.int .i64 s) := by rw [Lib.cell_of_heap hh0]; rfl
  clear hh0
  have HH1_1 := Lib.hid hh1
  have lt1 := heap_lt hh1
  have c1_0 : w1.cell? ⟨w.heap.size + 1, 0, none⟩ = some (.int .i64 n) := by rw [Lib.cell_of_heap hh1]; rfl
  have c1_1 : w1.cell? ⟨w.heap.size + 1, 1, none⟩ = some (.int .i64 t) := by rw [Lib.cell_of_heap hh1]; rfl
  clear hh1
  have sz1 := hbw1.size
  have HW1 := Lib.hid hbw1
  go_wp2_with fail
  refine (H2.out _).mono ?_; rintro e w2 ⟨rfl, hb⟩
  have hv0 := HH0_1.out
  have hh0 : w2.heap[w.heap.size]? = some (.cells #[.int .i64 m, .int .i64 s] 23 (0, 0)) := (hb.block _ (heap_lt hv0)).trans hv0
  clear hv0
  have hv1 := HH1_1.out
  have hh1 : w2.heap[w.heap.size + 1]? = some (.cells #[.int .i64 n, .int .i64 t] 23 (0, 0)) := (hb.block _ (heap_lt hv1)).trans hv1
  clear hv1
  have hbw2 : Below w.heap.size w w2 := (show Below w.heap.size w _ by first | exact HW1.out.trans ⟨rfl, rfl, rfl, Nat.le_refl _, fun _ _ => rfl⟩ | exact HW1.out | (go_grown; done)).trans (hb.mono (by first | omega | (simp; done) | (simp; omega)))
  clear hb lt0 c0_0 c0_1 lt1 c1_0 c1_1 hbw1
  have HH0_2 := Lib.hid hh0
  have lt0 := heap_lt hh0
  have c0_0 : w2.cell? ⟨w.heap.size, 0, none⟩ = some (.int .i64 m) := by rw [Lib.cell_of_heap hh0]; rfl
  have c0_1 : w2.cell? ⟨w.heap.size, 1, none⟩ = some (.int .i64 s) := by rw [Lib.cell_of_heap hh0]; rfl
  clear hh0
  have HH1_2 := Lib.hid hh1
  have lt1 := heap_lt hh1
  have c1_0 : w2.cell? ⟨w.heap.size + 1, 0, none⟩ = some (.int .i64 n) := by rw [Lib.cell_of_heap hh1]; rfl
  have c1_1 : w2.cell? ⟨w.heap.size + 1, 1, none⟩ = some (.int .i64 t) := by rw [Lib.cell_of_heap hh1]; rfl
  clear hh1
  have sz2 := hbw2.size
  have HW2 := Lib.hid hbw2
  go_wp2_with fail
  go_ret2
  exact ⟨rfl, by first | exact HW2.out | (go_grown; done)⟩
set_option maxRecDepth 100000 in
set_option maxHeartbeats 4000000 in
theorem rcmp14_go (m s n t r : Int) (w : World) (H1 : Hid (∀ w, Calls Tryd.prog 17 #[.agg #[.int .i64 m, .int .i64 s]] w fun e w' => e = .returned (.bool true) ∧ Below w.heap.size w w')) (H2 : Hid (∀ w, Calls Tryd.prog 17 #[.agg #[.int .i64 n, .int .i64 t]] w fun e w' => e = .returned (.bool true) ∧ Below w.heap.size w w')) (H3 : Hid (∀ w, Calls Tryd.prog 29 #[.agg #[.int .i64 m, .int .i64 s], .agg #[.int .i64 n, .int .i64 t]] w fun e w' => e = .returned (.int .i64 r) ∧ Below w.heap.size w w')) :
    Calls Tryd.prog 9 #[.agg #[.int .i64 m, .int .i64 s], .agg #[.int .i64 n, .int .i64 t]] w fun e w' => e = .returned (.tuple #[.int .i64 r, .int .i64 0]) ∧ Below w.heap.size w w' := by
  go_enter Tryd.func9, Tryd.ntmps9
  go_wp2_with fail
  refine (H1.out _).mono ?_; rintro e w1 ⟨rfl, hb⟩
  have hh0 : w1.heap[w.heap.size]? = some (.cells #[.int .i64 m, .int .i64 s] 23 (0, 0)) := (hb.block _ (by first | omega | (simp; done) | (simp; omega))).trans (heap_old (o' := (.cells #[.int .i64 n, .int .i64 t] 23 (0, 0))) (heap_new _ _ _ (by first | rfl | simp)))
  have hh1 : w1.heap[w.heap.size + 1]? = some (.cells #[.int .i64 n, .int .i64 t] 23 (0, 0)) := (hb.block _ (by first | omega | (simp; done) | (simp; omega))).trans (heap_new _ _ _ (by first | rfl | simp))
  have hbw1 : Below w.heap.size w w1 := (show Below w.heap.size w _ by first | exact Below.refl _ _ | (go_grown; done)).trans (hb.mono (by first | omega | (simp; done) | (simp; omega)))
  clear hb
  have HH0_1 := Lib.hid hh0
  have lt0 := heap_lt hh0
  have c0_0 : w1.cell? ⟨w.heap.size, 0, none⟩ = some (.int .i64 m) := by rw [Lib.cell_of_heap hh0]; rfl
  have c0_1 : w1.cell? ⟨w.heap.size, 1, none⟩ = some (.int .i64 s) := by rw [Lib.cell_of_heap hh0]; rfl
  clear hh0
  have HH1_1 := Lib.hid hh1
  have lt1 := heap_lt hh1
  have c1_0 : w1.cell? ⟨w.heap.size + 1, 0, none⟩ = some (.int .i64 n) := by rw [Lib.cell_of_heap hh1]; rfl
  have c1_1 : w1.cell? ⟨w.heap.size + 1, 1, none⟩ = some (.int .i64 t) := by rw [Lib.cell_of_heap hh1]; rfl
  clear hh1
  have sz1 := hbw1.size
  have HW1 := Lib.hid hbw1
  go_wp2_with fail
  refine (H2.out _).mono ?_; rintro e w2 ⟨rfl, hb⟩
  have hv0 := HH0_1.out
  have hh0 : w2.heap[w.heap.size]? = some (.cells #[.int .i64 m, .int .i64 s] 23 (0, 0)) := (hb.block _ (heap_lt hv0)).trans hv0
  clear hv0
  have hv1 := HH1_1.out
  have hh1 : w2.heap[w.heap.size + 1]? = some (.cells #[.int .i64 n, .int .i64 t] 23 (0, 0)) := (hb.block _ (heap_lt hv1)).trans hv1
  clear hv1
  have hbw2 : Below w.heap.size w w2 := (show Below w.heap.size w _ by first | exact HW1.out.trans ⟨rfl, rfl, rfl, Nat.le_refl _, fun _ _ => rfl⟩ | exact HW1.out | (go_grown; done)).trans (hb.mono (by first | omega | (simp; done) | (simp; omega)))
  clear hb lt0 c0_0 c0_1 lt1 c1_0 c1_1 hbw1
  have HH0_2 := Lib.hid hh0
  have lt0 := heap_lt hh0
  have c0_0 : w2.cell? ⟨w.heap.size, 0, none⟩ = some (.int .i64 m) := by rw [Lib.cell_of_heap hh0]; rfl
  have c0_1 : w2.cell? ⟨w.heap.size, 1, none⟩ = some (.int .i64 s) := by rw [Lib.cell_of_heap hh0]; rfl
  clear hh0
  have HH1_2 := Lib.hid hh1
  have lt1 := heap_lt hh1
  have c1_0 : w2.cell? ⟨w.heap.size + 1, 0, none⟩ = some (.int .i64 n) := by rw [Lib.cell_of_heap hh1]; rfl
  have c1_1 : w2.cell? ⟨w.heap.size + 1, 1, none⟩ = some (.int .i64 t) := by rw [Lib.cell_of_heap hh1]; rfl
  clear hh1
  have sz2 := hbw2.size
  have HW2 := Lib.hid hbw2
  go_wp2_with fail
  refine (H3.out _).mono ?_; rintro e w3 ⟨rfl, hb⟩
  have hv0 := HH0_2.out
  have hh0 : w3.heap[w.heap.size]? = some (.cells #[.int .i64 m, .int .i64 s] 23 (0, 0)) := (hb.block _ (heap_lt hv0)).trans hv0
  clear hv0
  have hv1 := HH1_2.out
  have hh1 : w3.heap[w.heap.size + 1]? = some (.cells #[.int .i64 n, .int .i64 t] 23 (0, 0)) := (hb.block _ (heap_lt hv1)).trans hv1
  clear hv1
  have hbw3 : Below w.heap.size w w3 := (show Below w.heap.size w _ by first | exact HW2.out.trans ⟨rfl, rfl, rfl, Nat.le_refl _, fun _ _ => rfl⟩ | exact HW2.out | (go_grown; done)).trans (hb.mono (by first | omega | (simp; done) | (simp; omega)))
  clear hb lt0 c0_0 c0_1 lt1 c1_0 c1_1 hbw2
  have HH0_3 := Lib.hid hh0
  have lt0 := heap_lt hh0
  have c0_0 : w3.cell? ⟨w.heap.size, 0, none⟩ = some (.int .i64 m) := by rw [Lib.cell_of_heap hh0]; rfl
  have c0_1 : w3.cell? ⟨w.heap.size, 1, none⟩ = some (.int .i64 s) := by rw [Lib.cell_of_heap hh0]; rfl
  clear hh0
  have HH1_3 := Lib.hid hh1
  have lt1 := heap_lt hh1
  have c1_0 : w3.cell? ⟨w.heap.size + 1, 0, none⟩ = some (.int .i64 n) := by rw [Lib.cell_of_heap hh1]; rfl
  have c1_1 : w3.cell? ⟨w.heap.size + 1, 1, none⟩ = some (.int .i64 t) := by rw [Lib.cell_of_heap hh1]; rfl
  clear hh1
  have sz3 := hbw3.size
  have HW3 := Lib.hid hbw3
  go_wp2_with fail
  go_ret2
  exact ⟨rfl, by first | exact HW3.out | (go_grown; done)⟩
theorem rcmp14_any (m s n t : Int) (hm : R m) (hs : R s) (hn : R n) (ht : R t) (w : World) :
    Calls Tryd.prog 9 #[.agg #[.int .i64 m, .int .i64 s], .agg #[.int .i64 n, .int .i64 t]] w fun e w' => e = .returned (.tuple #[.int .i64 (cmpV m s n t), .int .i64 (cmpE m s n t)]) ∧ Below w.heap.size w w' := by
  have H1 := fun w => rmay14_any m s hm hs w
  have H2 := fun w => rmay14_any n t hn ht w
  unfold cmpV cmpE
  cases h : may m s with
  | false => rw [h] at H1; exact rcmp14_a m s n t w (Lib.hid H1)
  | true =>
    cases k : may n t with
    | false => rw [h] at H1; rw [k] at H2; exact rcmp14_b m s n t w (Lib.hid H1) (Lib.hid H2)
    | true => rw [h] at H1; rw [k] at H2; exact rcmp14_go m s n t _ w (Lib.hid H1) (Lib.hid H2) (Lib.hid fun w => rorder14_any m s n t hm hn h k w)
end Go.Proofs.YtgljbhbpjobnbaaDoor
