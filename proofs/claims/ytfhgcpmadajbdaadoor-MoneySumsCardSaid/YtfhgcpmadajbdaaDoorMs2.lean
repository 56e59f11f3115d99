/- The walk through the law on sums of Decimals (provostlaw14.MoneySums). -/
import Derived.Test.YtfhgcpmadajbdaaDoorMk
import Derived.Test.YtfhgcpmadajbdaaDoorMs
import Derived.RegionTactic
import Derived.BigRegion
set_option linter.unusedSimpArgs false
set_option linter.unusedVariables false
namespace Go.Proofs.YtfhgcpmadajbdaaDoor
open Go.RowKit
set_option maxRecDepth 100000 in
set_option maxHeartbeats 2000000 in
theorem sums_hbad_none (m s n t p q x y e0 u1 u2 n1 h i m1 j : Int) (w : World) (he : Env w)
    (HS : Hid (∀ w, Calls Tryd.prog 11 #[.agg #[.int .i64 m, .int .i64 s], .agg #[.int .i64 n, .int .i64 t]] w fun e w' => e = .returned (.tuple #[.agg #[.int .i64 x, .int .i64 y], .int .i64 0]) ∧ Below w.heap.size w w'))
    (HT : Hid (∀ w, Calls Tryd.prog 11 #[.agg #[.int .i64 n, .int .i64 t], .agg #[.int .i64 m, .int .i64 s]] w fun e w' => e = .returned (.tuple #[.agg #[.int .i64 x, .int .i64 y], .int .i64 0]) ∧ Below w.heap.size w w'))
    (HK : Hid (∀ w, Calls Tryd.prog 15 #[.agg #[.int .i64 x, .int .i64 y]] w fun e w' => e = .returned (.int .i64 0) ∧ Below w.heap.size w w'))
    (HZ : Hid (∀ w, Calls Tryd.prog 11 #[.agg #[.int .i64 m, .int .i64 s], .agg #[.int .i64 0, .int .i64 0]] w fun e w' => e = .returned (.tuple #[.agg #[.int .i64 m, .int .i64 s], .int .i64 0]) ∧ Below w.heap.size w w'))
    (HA : Hid (∀ w, Calls Tryd.prog 15 #[.agg #[.int .i64 m, .int .i64 s]] w fun e w' => e = .returned (.int .i64 0) ∧ Below w.heap.size w w'))
    (HN : Hid (∀ w, Calls Tryd.prog 13 #[.agg #[.int .i64 m, .int .i64 s], .agg #[.int .i64 p, .int .i64 q]] w fun e w' => e = .returned (.tuple #[.int .i64 n1, .int .i64 140]) ∧ Below w.heap.size w w'))
    (HU : Hid (∀ w, Calls Tryd.prog 11 #[.agg #[.int .i64 p, .int .i64 q], .agg #[.int .i64 n, .int .i64 t]] w fun e w' => e = .returned (.tuple #[.agg #[.int .i64 u1, .int .i64 u2], .int .i64 i]) ∧ Below w.heap.size w w'))
    (HM : Hid (∀ w, Calls Tryd.prog 13 #[.agg #[.int .i64 x, .int .i64 y], .agg #[.int .i64 u1, .int .i64 u2]] w fun e w' => e = .returned (.tuple #[.int .i64 m1, .int .i64 j]) ∧ Below w.heap.size w w'))
    (hy1 : (m == -9223372036854775808) = false) (hy2 : (n == -9223372036854775808) = false) (hy3 : (x == -9223372036854775808) = false) (m0 : -9223372036854775807 ≤ m) (m9 : m ≤ 9223372036854775807) (n0 : -9223372036854775807 ≤ n) (n9 : n ≤ 9223372036854775807) (x0 : -9223372036854775807 ≤ x) (x9 : x ≤ 9223372036854775807)
    (HV : Hid (∀ w, Calls Tryd.prog 11 #[.agg #[.int .i64 (-m), .int .i64 s], .agg #[.int .i64 (-n), .int .i64 t]] w fun e w' => e = .returned (.tuple #[.agg #[.int .i64 (-x), .int .i64 y], .int .i64 0]) ∧ Below w.heap.size w w')) :
    Calls Tryd.prog 8 #[.agg #[.int .i64 m, .int .i64 s], .agg #[.int .i64 n, .int .i64 t], .agg #[.int .i64 p, .int .i64 q]] w fun e w' => e = .returned (.bool true) ∧ Below w.heap.size w w' := by
  have HL := Lib.hid (fun w he => alive_true w he)
  go_enter Tryd.func8, Tryd.ntmps8
  go_wp2_with fail
  refine (HL.out _ (he.stays (by go_grown))).mono ?_; rintro e w1 ⟨rfl, hb1⟩
  obtain ⟨cc, ff⟩ := bcell hb1
  have sz1 : w.heap.size + 1 + 1 + 1 ≤ w1.heap.size := by have := hb1.size; first | exact this | (simp at this; omega)
  have bw1 : Below w.heap.size w w1 := by
    refine Below.trans ?_ (hb1.mono (by first | omega | (simp; done) | (simp; omega)))
    go_grown
  have lt0_1 : w.heap.size < w1.heap.size := by omega
  have c0_0_1 : w1.cell? ⟨w.heap.size, 0, none⟩ = some (.int .i64 m) := by rw [cc _ _ (by first | omega | (simp; done) | (simp; omega))]; first | assumption | (simp [go_sem, *]; done)
  have f0_0_1 : w1.frozen? ⟨w.heap.size, 0, none⟩ = false := by rw [ff _ _ (by first | omega | (simp; done) | (simp; omega))]; first | assumption | (simp [go_sem, *]; done)
  have c0_1_1 : w1.cell? ⟨w.heap.size, 1, none⟩ = some (.int .i64 s) := by rw [cc _ _ (by first | omega | (simp; done) | (simp; omega))]; first | assumption | (simp [go_sem, *]; done)
  have f0_1_1 : w1.frozen? ⟨w.heap.size, 1, none⟩ = false := by rw [ff _ _ (by first | omega | (simp; done) | (simp; omega))]; first | assumption | (simp [go_sem, *]; done)
  have lt1_1 : w.heap.size + 1 < w1.heap.size := by omega
  have c1_0_1 : w1.cell? ⟨w.heap.size + 1, 0, none⟩ = some (.int .i64 n) := by rw [cc _ _ (by first | omega | (simp; done) | (simp; omega))]; first | assumption | (simp [go_sem, *]; done)
  have f1_0_1 : w1.frozen? ⟨w.heap.size + 1, 0, none⟩ = false := by rw [ff _ _ (by first | omega | (simp; done) | (simp; omega))]; first | assumption | (simp [go_sem, *]; done)
  have c1_1_1 : w1.cell? ⟨w.heap.size + 1, 1, none⟩ = some (.int .i64 t) := by rw [cc _ _ (by first | omega | (simp; done) | (simp; omega))]; first | assumption | (simp [go_sem, *]; done)
  have f1_1_1 : w1.frozen? ⟨w.heap.size + 1, 1, none⟩ = false := by rw [ff _ _ (by first | omega | (simp; done) | (simp; omega))]; first | assumption | (simp [go_sem, *]; done)
  have lt2_1 : w.heap.size + 1 + 1 < w1.heap.size := by omega
  have c2_0_1 : w1.cell? ⟨w.heap.size + 1 + 1, 0, none⟩ = some (.int .i64 p) := by rw [cc _ _ (by first | omega | (simp; done) | (simp; omega))]; first | assumption | (simp [go_sem, *]; done)
  have c2_1_1 : w1.cell? ⟨w.heap.size + 1 + 1, 1, none⟩ = some (.int .i64 q) := by rw [cc _ _ (by first | omega | (simp; done) | (simp; omega))]; first | assumption | (simp [go_sem, *]; done)
  clear cc ff hb1
  go_wp2_with fail
  refine (HS.out _).mono ?_; rintro e w2 ⟨rfl, hb2⟩
  obtain ⟨cc, ff⟩ := bcell hb2
  have sz2 : w1.heap.size ≤ w2.heap.size := by have := hb2.size; first | exact this | (simp at this; omega)
  have bw2 : Below w.heap.size w w2 := by
    refine Below.trans ?_ (hb2.mono (by first | omega | (simp; done) | (simp; omega)))
    go_grown
  have lt0_2 : w.heap.size < w2.heap.size := by omega
  have c0_0_2 : w2.cell? ⟨w.heap.size, 0, none⟩ = some (.int .i64 m) := by rw [cc _ _ (by first | omega | (simp; done) | (simp; omega))]; first | assumption | (simp [go_sem, *]; done)
  have f0_0_2 : w2.frozen? ⟨w.heap.size, 0, none⟩ = false := by rw [ff _ _ (by first | omega | (simp; done) | (simp; omega))]; first | assumption | (simp [go_sem, *]; done)
  have c0_1_2 : w2.cell? ⟨w.heap.size, 1, none⟩ = some (.int .i64 s) := by rw [cc _ _ (by first | omega | (simp; done) | (simp; omega))]; first | assumption | (simp [go_sem, *]; done)
  have f0_1_2 : w2.frozen? ⟨w.heap.size, 1, none⟩ = false := by rw [ff _ _ (by first | omega | (simp; done) | (simp; omega))]; first | assumption | (simp [go_sem, *]; done)
  have lt1_2 : w.heap.size + 1 < w2.heap.size := by omega
  have c1_0_2 : w2.cell? ⟨w.heap.size + 1, 0, none⟩ = some (.int .i64 n) := by rw [cc _ _ (by first | omega | (simp; done) | (simp; omega))]; first | assumption | (simp [go_sem, *]; done)
  have f1_0_2 : w2.frozen? ⟨w.heap.size + 1, 0, none⟩ = false := by rw [ff _ _ (by first | omega | (simp; done) | (simp; omega))]; first | assumption | (simp [go_sem, *]; done)
  have c1_1_2 : w2.cell? ⟨w.heap.size + 1, 1, none⟩ = some (.int .i64 t) := by rw [cc _ _ (by first | omega | (simp; done) | (simp; omega))]; first | assumption | (simp [go_sem, *]; done)
  have f1_1_2 : w2.frozen? ⟨w.heap.size + 1, 1, none⟩ = false := by rw [ff _ _ (by first | omega | (simp; done) | (simp; omega))]; first | assumption | (simp [go_sem, *]; done)
  have lt2_2 : w.heap.size + 1 + 1 < w2.heap.size := by omega
  have c2_0_2 : w2.cell? ⟨w.heap.size + 1 + 1, 0, none⟩ = some (.int .i64 p) := by rw [cc _ _ (by first | omega | (simp; done) | (simp; omega))]; first | assumption | (simp [go_sem, *]; done)
  have c2_1_2 : w2.cell? ⟨w.heap.size + 1 + 1, 1, none⟩ = some (.int .i64 q) := by rw [cc _ _ (by first | omega | (simp; done) | (simp; omega))]; first | assumption | (simp [go_sem, *]; done)
  clear cc ff hb2 lt0_1 c0_0_1 f0_0_1 c0_1_1 f0_1_1 lt1_1 c1_0_1 f1_0_1 c1_1_1 f1_1_1 lt2_1 c2_0_1 c2_1_1
  go_wp2_with fail
  refine (HT.out _).mono ?_; rintro e w3 ⟨rfl, hb3⟩
  obtain ⟨cc, ff⟩ := bcell hb3
  have sz3 : w2.heap.size + 1 ≤ w3.heap.size := by have := hb3.size; first | exact this | (simp at this; omega)
  have bw3 : Below w.heap.size w w3 := by
    refine Below.trans ?_ (hb3.mono (by first | omega | (simp; done) | (simp; omega)))
    go_grown
  have lt0_3 : w.heap.size < w3.heap.size := by omega
  have c0_0_3 : w3.cell? ⟨w.heap.size, 0, none⟩ = some (.int .i64 m) := by rw [cc _ _ (by first | omega | (simp; done) | (simp; omega))]; first | assumption | (simp [go_sem, *]; done)
  have f0_0_3 : w3.frozen? ⟨w.heap.size, 0, none⟩ = false := by rw [ff _ _ (by first | omega | (simp; done) | (simp; omega))]; first | assumption | (simp [go_sem, *]; done)
  have c0_1_3 : w3.cell? ⟨w.heap.size, 1, none⟩ = some (.int .i64 s) := by rw [cc _ _ (by first | omega | (simp; done) | (simp; omega))]; first | assumption | (simp [go_sem, *]; done)
  have f0_1_3 : w3.frozen? ⟨w.heap.size, 1, none⟩ = false := by rw [ff _ _ (by first | omega | (simp; done) | (simp; omega))]; first | assumption | (simp [go_sem, *]; done)
  have lt1_3 : w.heap.size + 1 < w3.heap.size := by omega
  have c1_0_3 : w3.cell? ⟨w.heap.size + 1, 0, none⟩ = some (.int .i64 n) := by rw [cc _ _ (by first | omega | (simp; done) | (simp; omega))]; first | assumption | (simp [go_sem, *]; done)
  have f1_0_3 : w3.frozen? ⟨w.heap.size + 1, 0, none⟩ = false := by rw [ff _ _ (by first | omega | (simp; done) | (simp; omega))]; first | assumption | (simp [go_sem, *]; done)
  have c1_1_3 : w3.cell? ⟨w.heap.size + 1, 1, none⟩ = some (.int .i64 t) := by rw [cc _ _ (by first | omega | (simp; done) | (simp; omega))]; first | assumption | (simp [go_sem, *]; done)
  have f1_1_3 : w3.frozen? ⟨w.heap.size + 1, 1, none⟩ = false := by rw [ff _ _ (by first | omega | (simp; done) | (simp; omega))]; first | assumption | (simp [go_sem, *]; done)
  have lt2_3 : w.heap.size + 1 + 1 < w3.heap.size := by omega
  have c2_0_3 : w3.cell? ⟨w.heap.size + 1 + 1, 0, none⟩ = some (.int .i64 p) := by rw [cc _ _ (by first | omega | (simp; done) | (simp; omega))]; first | assumption | (simp [go_sem, *]; done)
  have c2_1_3 : w3.cell? ⟨w.heap.size + 1 + 1, 1, none⟩ = some (.int .i64 q) := by rw [cc _ _ (by first | omega | (simp; done) | (simp; omega))]; first | assumption | (simp [go_sem, *]; done)
  have lt3_3 : w2.heap.size < w3.heap.size := by omega
  have c3_0_3 : w3.cell? ⟨w2.heap.size, 0, none⟩ = some (.int .i64 x) := by rw [cc _ _ (by first | omega | (simp; done) | (simp; omega))]; first | assumption | (simp [go_sem, *]; done)
  have c3_1_3 : w3.cell? ⟨w2.heap.size, 1, none⟩ = some (.int .i64 y) := by rw [cc _ _ (by first | omega | (simp; done) | (simp; omega))]; first | assumption | (simp [go_sem, *]; done)
  clear cc ff hb3 lt0_2 c0_0_2 f0_0_2 c0_1_2 f0_1_2 lt1_2 c1_0_2 f1_0_2 c1_1_2 f1_1_2 lt2_2 c2_0_2 c2_1_2
  go_wp2_with fail
  refine (HK.out _).mono ?_; rintro e w4 ⟨rfl, hb4⟩
  obtain ⟨cc, ff⟩ := bcell hb4
  have sz4 : w3.heap.size + 1 ≤ w4.heap.size := by have := hb4.size; first | exact this | (simp at this; omega)
  have bw4 : Below w.heap.size w w4 := by
    refine Below.trans ?_ (hb4.mono (by first | omega | (simp; done) | (simp; omega)))
    go_grown
  have lt0_4 : w.heap.size < w4.heap.size := by omega
  have c0_0_4 : w4.cell? ⟨w.heap.size, 0, none⟩ = some (.int .i64 m) := by rw [cc _ _ (by first | omega | (simp; done) | (simp; omega))]; first | assumption | (simp [go_sem, *]; done)
  have f0_0_4 : w4.frozen? ⟨w.heap.size, 0, none⟩ = false := by rw [ff _ _ (by first | omega | (simp; done) | (simp; omega))]; first | assumption | (simp [go_sem, *]; done)
  have c0_1_4 : w4.cell? ⟨w.heap.size, 1, none⟩ = some (.int .i64 s) := by rw [cc _ _ (by first | omega | (simp; done) | (simp; omega))]; first | assumption | (simp [go_sem, *]; done)
  have f0_1_4 : w4.frozen? ⟨w.heap.size, 1, none⟩ = false := by rw [ff _ _ (by first | omega | (simp; done) | (simp; omega))]; first | assumption | (simp [go_sem, *]; done)
  have lt1_4 : w.heap.size + 1 < w4.heap.size := by omega
  have c1_0_4 : w4.cell? ⟨w.heap.size + 1, 0, none⟩ = some (.int .i64 n) := by rw [cc _ _ (by first | omega | (simp; done) | (simp; omega))]; first | assumption | (simp [go_sem, *]; done)
  have f1_0_4 : w4.frozen? ⟨w.heap.size + 1, 0, none⟩ = false := by rw [ff _ _ (by first | omega | (simp; done) | (simp; omega))]; first | assumption | (simp [go_sem, *]; done)
  have c1_1_4 : w4.cell? ⟨w.heap.size + 1, 1, none⟩ = some (.int .i64 t) := by rw [cc _ _ (by first | omega | (simp; done) | (simp; omega))]; first | assumption | (simp [go_sem, *]; done)
  have f1_1_4 : w4.frozen? ⟨w.heap.size + 1, 1, none⟩ = false := by rw [ff _ _ (by first | omega | (simp; done) | (simp; omega))]; first | assumption | (simp [go_sem, *]; done)
  have lt2_4 : w.heap.size + 1 + 1 < w4.heap.size := by omega
  have c2_0_4 : w4.cell? ⟨w.heap.size + 1 + 1, 0, none⟩ = some (.int .i64 p) := by rw [cc _ _ (by first | omega | (simp; done) | (simp; omega))]; first | assumption | (simp [go_sem, *]; done)
  have c2_1_4 : w4.cell? ⟨w.heap.size + 1 + 1, 1, none⟩ = some (.int .i64 q) := by rw [cc _ _ (by first | omega | (simp; done) | (simp; omega))]; first | assumption | (simp [go_sem, *]; done)
  have lt3_4 : w2.heap.size < w4.heap.size := by omega
  have c3_0_4 : w4.cell? ⟨w2.heap.size, 0, none⟩ = some (.int .i64 x) := by rw [cc _ _ (by first | omega | (simp; done) | (simp; omega))]; first | assumption | (simp [go_sem, *]; done)
  have c3_1_4 : w4.cell? ⟨w2.heap.size, 1, none⟩ = some (.int .i64 y) := by rw [cc _ _ (by first | omega | (simp; done) | (simp; omega))]; first | assumption | (simp [go_sem, *]; done)
  have lt4_4 : w3.heap.size < w4.heap.size := by omega
  have c4_0_4 : w4.cell? ⟨w3.heap.size, 0, none⟩ = some (.int .i64 x) := by rw [cc _ _ (by first | omega | (simp; done) | (simp; omega))]; first | assumption | (simp [go_sem, *]; done)
  have c4_1_4 : w4.cell? ⟨w3.heap.size, 1, none⟩ = some (.int .i64 y) := by rw [cc _ _ (by first | omega | (simp; done) | (simp; omega))]; first | assumption | (simp [go_sem, *]; done)
  clear cc ff hb4 lt0_3 c0_0_3 f0_0_3 c0_1_3 f0_1_3 lt1_3 c1_0_3 f1_0_3 c1_1_3 f1_1_3 lt2_3 c2_0_3 c2_1_3 lt3_3 c3_0_3 c3_1_3
  go_wp2_with fail
  refine (HZ.out _).mono ?_; rintro e w5 ⟨rfl, hb5⟩
  obtain ⟨cc, ff⟩ := bcell hb5
  have sz5 : w4.heap.size ≤ w5.heap.size := by have := hb5.size; first | exact this | (simp at this; omega)
  have bw5 : Below w.heap.size w w5 := by
    refine Below.trans ?_ (hb5.mono (by first | omega | (simp; done) | (simp; omega)))
    go_grown
  have lt0_5 : w.heap.size < w5.heap.size := by omega
  have c0_0_5 : w5.cell? ⟨w.heap.size, 0, none⟩ = some (.int .i64 m) := by rw [cc _ _ (by first | omega | (simp; done) | (simp; omega))]; first | assumption | (simp [go_sem, *]; done)
  have f0_0_5 : w5.frozen? ⟨w.heap.size, 0, none⟩ = false := by rw [ff _ _ (by first | omega | (simp; done) | (simp; omega))]; first | assumption | (simp [go_sem, *]; done)
  have c0_1_5 : w5.cell? ⟨w.heap.size, 1, none⟩ = some (.int .i64 s) := by rw [cc _ _ (by first | omega | (simp; done) | (simp; omega))]; first | assumption | (simp [go_sem, *]; done)
  have f0_1_5 : w5.frozen? ⟨w.heap.size, 1, none⟩ = false := by rw [ff _ _ (by first | omega | (simp; done) | (simp; omega))]; first | assumption | (simp [go_sem, *]; done)
  have lt1_5 : w.heap.size + 1 < w5.heap.size := by omega
  have c1_0_5 : w5.cell? ⟨w.heap.size + 1, 0, none⟩ = some (.int .i64 n) := by rw [cc _ _ (by first | omega | (simp; done) | (simp; omega))]; first | assumption | (simp [go_sem, *]; done)
  have f1_0_5 : w5.frozen? ⟨w.heap.size + 1, 0, none⟩ = false := by rw [ff _ _ (by first | omega | (simp; done) | (simp; omega))]; first | assumption | (simp [go_sem, *]; done)
  have c1_1_5 : w5.cell? ⟨w.heap.size + 1, 1, none⟩ = some (.int .i64 t) := by rw [cc _ _ (by first | omega | (simp; done) | (simp; omega))]; first | assumption | (simp [go_sem, *]; done)
  have f1_1_5 : w5.frozen? ⟨w.heap.size + 1, 1, none⟩ = false := by rw [ff _ _ (by first | omega | (simp; done) | (simp; omega))]; first | assumption | (simp [go_sem, *]; done)
  have lt2_5 : w.heap.size + 1 + 1 < w5.heap.size := by omega
  have c2_0_5 : w5.cell? ⟨w.heap.size + 1 + 1, 0, none⟩ = some (.int .i64 p) := by rw [cc _ _ (by first | omega | (simp; done) | (simp; omega))]; first | assumption | (simp [go_sem, *]; done)
  have c2_1_5 : w5.cell? ⟨w.heap.size + 1 + 1, 1, none⟩ = some (.int .i64 q) := by rw [cc _ _ (by first | omega | (simp; done) | (simp; omega))]; first | assumption | (simp [go_sem, *]; done)
  have lt3_5 : w2.heap.size < w5.heap.size := by omega
  have c3_0_5 : w5.cell? ⟨w2.heap.size, 0, none⟩ = some (.int .i64 x) := by rw [cc _ _ (by first | omega | (simp; done) | (simp; omega))]; first | assumption | (simp [go_sem, *]; done)
  have c3_1_5 : w5.cell? ⟨w2.heap.size, 1, none⟩ = some (.int .i64 y) := by rw [cc _ _ (by first | omega | (simp; done) | (simp; omega))]; first | assumption | (simp [go_sem, *]; done)
  have lt4_5 : w3.heap.size < w5.heap.size := by omega
  have c4_0_5 : w5.cell? ⟨w3.heap.size, 0, none⟩ = some (.int .i64 x) := by rw [cc _ _ (by first | omega | (simp; done) | (simp; omega))]; first | assumption | (simp [go_sem, *]; done)
  have c4_1_5 : w5.cell? ⟨w3.heap.size, 1, none⟩ = some (.int .i64 y) := by rw [cc _ _ (by first | omega | (simp; done) | (simp; omega))]; first | assumption | (simp [go_sem, *]; done)
  clear cc ff hb5 lt0_4 c0_0_4 f0_0_4 c0_1_4 f0_1_4 lt1_4 c1_0_4 f1_0_4 c1_1_4 f1_1_4 lt2_4 c2_0_4 c2_1_4 lt3_4 c3_0_4 c3_1_4 lt4_4 c4_0_4 c4_1_4
  go_wp2_with fail
  refine (HA.out _).mono ?_; rintro e w6 ⟨rfl, hb6⟩
  obtain ⟨cc, ff⟩ := bcell hb6
  have sz6 : w5.heap.size + 1 ≤ w6.heap.size := by have := hb6.size; first | exact this | (simp at this; omega)
  have bw6 : Below w.heap.size w w6 := by
    refine Below.trans ?_ (hb6.mono (by first | omega | (simp; done) | (simp; omega)))
    go_grown
  have lt0_6 : w.heap.size < w6.heap.size := by omega
  have c0_0_6 : w6.cell? ⟨w.heap.size, 0, none⟩ = some (.int .i64 m) := by rw [cc _ _ (by first | omega | (simp; done) | (simp; omega))]; first | assumption | (simp [go_sem, *]; done)
  have f0_0_6 : w6.frozen? ⟨w.heap.size, 0, none⟩ = false := by rw [ff _ _ (by first | omega | (simp; done) | (simp; omega))]; first | assumption | (simp [go_sem, *]; done)
  have c0_1_6 : w6.cell? ⟨w.heap.size, 1, none⟩ = some (.int .i64 s) := by rw [cc _ _ (by first | omega | (simp; done) | (simp; omega))]; first | assumption | (simp [go_sem, *]; done)
  have f0_1_6 : w6.frozen? ⟨w.heap.size, 1, none⟩ = false := by rw [ff _ _ (by first | omega | (simp; done) | (simp; omega))]; first | assumption | (simp [go_sem, *]; done)
  have lt1_6 : w.heap.size + 1 < w6.heap.size := by omega
  have c1_0_6 : w6.cell? ⟨w.heap.size + 1, 0, none⟩ = some (.int .i64 n) := by rw [cc _ _ (by first | omega | (simp; done) | (simp; omega))]; first | assumption | (simp [go_sem, *]; done)
  have f1_0_6 : w6.frozen? ⟨w.heap.size + 1, 0, none⟩ = false := by rw [ff _ _ (by first | omega | (simp; done) | (simp; omega))]; first | assumption | (simp [go_sem, *]; done)
  have c1_1_6 : w6.cell? ⟨w.heap.size + 1, 1, none⟩ = some (.int .i64 t) := by rw [cc _ _ (by first | omega | (simp; done) | (simp; omega))]; first | assumption | (simp [go_sem, *]; done)
  have f1_1_6 : w6.frozen? ⟨w.heap.size + 1, 1, none⟩ = false := by rw [ff _ _ (by first | omega | (simp; done) | (simp; omega))]; first | assumption | (simp [go_sem, *]; done)
  have lt2_6 : w.heap.size + 1 + 1 < w6.heap.size := by omega
  have c2_0_6 : w6.cell? ⟨w.heap.size + 1 + 1, 0, none⟩ = some (.int .i64 p) := by rw [cc _ _ (by first | omega | (simp; done) | (simp; omega))]; first | assumption | (simp [go_sem, *]; done)
  have c2_1_6 : w6.cell? ⟨w.heap.size + 1 + 1, 1, none⟩ = some (.int .i64 q) := by rw [cc _ _ (by first | omega | (simp; done) | (simp; omega))]; first | assumption | (simp [go_sem, *]; done)
  have lt3_6 : w2.heap.size < w6.heap.size := by omega
  have c3_0_6 : w6.cell? ⟨w2.heap.size, 0, none⟩ = some (.int .i64 x) := by rw [cc _ _ (by first | omega | (simp; done) | (simp; omega))]; first | assumption | (simp [go_sem, *]; done)
  have c3_1_6 : w6.cell? ⟨w2.heap.size, 1, none⟩ = some (.int .i64 y) := by rw [cc _ _ (by first | omega | (simp; done) | (simp; omega))]; first | assumption | (simp [go_sem, *]; done)
  have lt4_6 : w3.heap.size < w6.heap.size := by omega
  have c4_0_6 : w6.cell? ⟨w3.heap.size, 0, none⟩ = some (.int .i64 x) := by rw [cc _ _ (by first | omega | (simp; done) | (simp; omega))]; first | assumption | (simp [go_sem, *]; done)
  have c4_1_6 : w6.cell? ⟨w3.heap.size, 1, none⟩ = some (.int .i64 y) := by rw [cc _ _ (by first | omega | (simp; done) | (simp; omega))]; first | assumption | (simp [go_sem, *]; done)
  have lt5_6 : w5.heap.size < w6.heap.size := by omega
  have c5_0_6 : w6.cell? ⟨w5.heap.size, 0, none⟩ = some (.int .i64 m) := by rw [cc _ _ (by first | omega | (simp; done) | (simp; omega))]; first | assumption | (simp [go_sem, *]; done)
  have c5_1_6 : w6.cell? ⟨w5.heap.size, 1, none⟩ = some (.int .i64 s) := by rw [cc _ _ (by first | omega | (simp; done) | (simp; omega))]; first | assumption | (simp [go_sem, *]; done)
  clear cc ff hb6 lt0_5 c0_0_5 f0_0_5 c0_1_5 f0_1_5 lt1_5 c1_0_5 f1_0_5 c1_1_5 f1_1_5 lt2_5 c2_0_5 c2_1_5 lt3_5 c3_0_5 c3_1_5 lt4_5 c4_0_5 c4_1_5
  go_wp2_with fail
  refine (HN.out _).mono ?_; rintro e w7 ⟨rfl, hb7⟩
  obtain ⟨cc, ff⟩ := bcell hb7
  have sz7 : w6.heap.size ≤ w7.heap.size := by have := hb7.size; first | exact this | (simp at this; omega)
  have bw7 : Below w.heap.size w w7 := by
    refine Below.trans ?_ (hb7.mono (by first | omega | (simp; done) | (simp; omega)))
    go_grown
  have lt0_7 : w.heap.size < w7.heap.size := by omega
  have c0_0_7 : w7.cell? ⟨w.heap.size, 0, none⟩ = some (.int .i64 m) := by rw [cc _ _ (by first | omega | (simp; done) | (simp; omega))]; first | assumption | (simp [go_sem, *]; done)
  have f0_0_7 : w7.frozen? ⟨w.heap.size, 0, none⟩ = false := by rw [ff _ _ (by first | omega | (simp; done) | (simp; omega))]; first | assumption | (simp [go_sem, *]; done)
  have c0_1_7 : w7.cell? ⟨w.heap.size, 1, none⟩ = some (.int .i64 s) := by rw [cc _ _ (by first | omega | (simp; done) | (simp; omega))]; first | assumption | (simp [go_sem, *]; done)
  have f0_1_7 : w7.frozen? ⟨w.heap.size, 1, none⟩ = false := by rw [ff _ _ (by first | omega | (simp; done) | (simp; omega))]; first | assumption | (simp [go_sem, *]; done)
  have lt1_7 : w.heap.size + 1 < w7.heap.size := by omega
  have c1_0_7 : w7.cell? ⟨w.heap.size + 1, 0, none⟩ = some (.int .i64 n) := by rw [cc _ _ (by first | omega | (simp; done) | (simp; omega))]; first | assumption | (simp [go_sem, *]; done)
  have f1_0_7 : w7.frozen? ⟨w.heap.size + 1, 0, none⟩ = false := by rw [ff _ _ (by first | omega | (simp; done) | (simp; omega))]; first | assumption | (simp [go_sem, *]; done)
  have c1_1_7 : w7.cell? ⟨w.heap.size + 1, 1, none⟩ = some (.int .i64 t) := by rw [cc _ _ (by first | omega | (simp; done) | (simp; omega))]; first | assumption | (simp [go_sem, *]; done)
  have f1_1_7 : w7.frozen? ⟨w.heap.size + 1, 1, none⟩ = false := by rw [ff _ _ (by first | omega | (simp; done) | (simp; omega))]; first | assumption | (simp [go_sem, *]; done)
  have lt2_7 : w.heap.size + 1 + 1 < w7.heap.size := by omega
  have c2_0_7 : w7.cell? ⟨w.heap.size + 1 + 1, 0, none⟩ = some (.int .i64 p) := by rw [cc _ _ (by first | omega | (simp; done) | (simp; omega))]; first | assumption | (simp [go_sem, *]; done)
  have c2_1_7 : w7.cell? ⟨w.heap.size + 1 + 1, 1, none⟩ = some (.int .i64 q) := by rw [cc _ _ (by first | omega | (simp; done) | (simp; omega))]; first | assumption | (simp [go_sem, *]; done)
  have lt3_7 : w2.heap.size < w7.heap.size := by omega
  have c3_0_7 : w7.cell? ⟨w2.heap.size, 0, none⟩ = some (.int .i64 x) := by rw [cc _ _ (by first | omega | (simp; done) | (simp; omega))]; first | assumption | (simp [go_sem, *]; done)
  have c3_1_7 : w7.cell? ⟨w2.heap.size, 1, none⟩ = some (.int .i64 y) := by rw [cc _ _ (by first | omega | (simp; done) | (simp; omega))]; first | assumption | (simp [go_sem, *]; done)
  have lt4_7 : w3.heap.size < w7.heap.size := by omega
  have c4_0_7 : w7.cell? ⟨w3.heap.size, 0, none⟩ = some (.int .i64 x) := by rw [cc _ _ (by first | omega | (simp; done) | (simp; omega))]; first | assumption | (simp [go_sem, *]; done)
  have c4_1_7 : w7.cell? ⟨w3.heap.size, 1, none⟩ = some (.int .i64 y) := by rw [cc _ _ (by first | omega | (simp; done) | (simp; omega))]; first | assumption | (simp [go_sem, *]; done)
  have lt5_7 : w5.heap.size < w7.heap.size := by omega
  have c5_0_7 : w7.cell? ⟨w5.heap.size, 0, none⟩ = some (.int .i64 m) := by rw [cc _ _ (by first | omega | (simp; done) | (simp; omega))]; first | assumption | (simp [go_sem, *]; done)
  have c5_1_7 : w7.cell? ⟨w5.heap.size, 1, none⟩ = some (.int .i64 s) := by rw [cc _ _ (by first | omega | (simp; done) | (simp; omega))]; first | assumption | (simp [go_sem, *]; done)
  clear cc ff hb7 lt0_6 c0_0_6 f0_0_6 c0_1_6 f0_1_6 lt1_6 c1_0_6 f1_0_6 c1_1_6 f1_1_6 lt2_6 c2_0_6 c2_1_6 lt3_6 c3_0_6 c3_1_6 lt4_6 c4_0_6 c4_1_6 lt5_6 c5_0_6 c5_1_6
  go_wp2_with fail
  refine (HU.out _).mono ?_; rintro e w8 ⟨rfl, hb8⟩
  obtain ⟨cc, ff⟩ := bcell hb8
  have sz8 : w7.heap.size ≤ w8.heap.size := by have := hb8.size; first | exact this | (simp at this; omega)
  have bw8 : Below w.heap.size w w8 := by
    refine Below.trans ?_ (hb8.mono (by first | omega | (simp; done) | (simp; omega)))
    go_grown
  have lt0_8 : w.heap.size < w8.heap.size := by omega
  have c0_0_8 : w8.cell? ⟨w.heap.size, 0, none⟩ = some (.int .i64 m) := by rw [cc _ _ (by first | omega | (simp; done) | (simp; omega))]; first | assumption | (simp [go_sem, *]; done)
  have f0_0_8 : w8.frozen? ⟨w.heap.size, 0, none⟩ = false := by rw [ff _ _ (by first | omega | (simp; done) | (simp; omega))]; first | assumption | (simp [go_sem, *]; done)
  have c0_1_8 : w8.cell? ⟨w.heap.size, 1, none⟩ = some (.int .i64 s) := by rw [cc _ _ (by first | omega | (simp; done) | (simp; omega))]; first | assumption | (simp [go_sem, *]; done)
  have f0_1_8 : w8.frozen? ⟨w.heap.size, 1, none⟩ = false := by rw [ff _ _ (by first | omega | (simp; done) | (simp; omega))]; first | assumption | (simp [go_sem, *]; done)
  have lt1_8 : w.heap.size + 1 < w8.heap.size := by omega
  have c1_0_8 : w8.cell? ⟨w.heap.size + 1, 0, none⟩ = some (.int .i64 n) := by rw [cc _ _ (by first | omega | (simp; done) | (simp; omega))]; first | assumption | (simp [go_sem, *]; done)
  have f1_0_8 : w8.frozen? ⟨w.heap.size + 1, 0, none⟩ = false := by rw [ff _ _ (by first | omega | (simp; done) | (simp; omega))]; first | assumption | (simp [go_sem, *]; done)
  have c1_1_8 : w8.cell? ⟨w.heap.size + 1, 1, none⟩ = some (.int .i64 t) := by rw [cc _ _ (by first | omega | (simp; done) | (simp; omega))]; first | assumption | (simp [go_sem, *]; done)
  have f1_1_8 : w8.frozen? ⟨w.heap.size + 1, 1, none⟩ = false := by rw [ff _ _ (by first | omega | (simp; done) | (simp; omega))]; first | assumption | (simp [go_sem, *]; done)
  have lt2_8 : w.heap.size + 1 + 1 < w8.heap.size := by omega
  have c2_0_8 : w8.cell? ⟨w.heap.size + 1 + 1, 0, none⟩ = some (.int .i64 p) := by rw [cc _ _ (by first | omega | (simp; done) | (simp; omega))]; first | assumption | (simp [go_sem, *]; done)
  have c2_1_8 : w8.cell? ⟨w.heap.size + 1 + 1, 1, none⟩ = some (.int .i64 q) := by rw [cc _ _ (by first | omega | (simp; done) | (simp; omega))]; first | assumption | (simp [go_sem, *]; done)
  have lt3_8 : w2.heap.size < w8.heap.size := by omega
  have c3_0_8 : w8.cell? ⟨w2.heap.size, 0, none⟩ = some (.int .i64 x) := by rw [cc _ _ (by first | omega | (simp; done) | (simp; omega))]; first | assumption | (simp [go_sem, *]; done)
  have c3_1_8 : w8.cell? ⟨w2.heap.size, 1, none⟩ = some (.int .i64 y) := by rw [cc _ _ (by first | omega | (simp; done) | (simp; omega))]; first | assumption | (simp [go_sem, *]; done)
  have lt4_8 : w3.heap.size < w8.heap.size := by omega
  have c4_0_8 : w8.cell? ⟨w3.heap.size, 0, none⟩ = some (.int .i64 x) := by rw [cc _ _ (by first | omega | (simp; done) | (simp; omega))]; first | assumption | (simp [go_sem, *]; done)
  have c4_1_8 : w8.cell? ⟨w3.heap.size, 1, none⟩ = some (.int .i64 y) := by rw [cc _ _ (by first | omega | (simp; done) | (simp; omega))]; first | assumption | (simp [go_sem, *]; done)
  have lt5_8 : w5.heap.size < w8.heap.size := by omega
  have c5_0_8 : w8.cell? ⟨w5.heap.size, 0, none⟩ = some (.int .i64 m) := by rw [cc _ _ (by first | omega | (simp; done) | (simp; omega))]; first | assumption | (simp [go_sem, *]; done)
  have c5_1_8 : w8.cell? ⟨w5.heap.size, 1, none⟩ = some (.int .i64 s) := by rw [cc _ _ (by first | omega | (simp; done) | (simp; omega))]; first | assumption | (simp [go_sem, *]; done)
  clear cc ff hb8 lt0_7 c0_0_7 f0_0_7 c0_1_7 f0_1_7 lt1_7 c1_0_7 f1_0_7 c1_1_7 f1_1_7 lt2_7 c2_0_7 c2_1_7 lt3_7 c3_0_7 c3_1_7 lt4_7 c4_0_7 c4_1_7 lt5_7 c5_0_7 c5_1_7
  go_wp2_with fail
  refine (HM.out _).mono ?_; rintro e w9 ⟨rfl, hb9⟩
  obtain ⟨cc, ff⟩ := bcell hb9
  have sz9 : w8.heap.size + 1 ≤ w9.heap.size := by have := hb9.size; first | exact this | (simp at this; omega)
  have bw9 : Below w.heap.size w w9 := by
    refine Below.trans ?_ (hb9.mono (by first | omega | (simp; done) | (simp; omega)))
    go_grown
  have lt0_9 : w.heap.size < w9.heap.size := by omega
  have c0_0_9 : w9.cell? ⟨w.heap.size, 0, none⟩ = some (.int .i64 m) := by rw [cc _ _ (by first | omega | (simp; done) | (simp; omega))]; first | assumption | (simp [go_sem, *]; done)
  have f0_0_9 : w9.frozen? ⟨w.heap.size, 0, none⟩ = false := by rw [ff _ _ (by first | omega | (simp; done) | (simp; omega))]; first | assumption | (simp [go_sem, *]; done)
  have c0_1_9 : w9.cell? ⟨w.heap.size, 1, none⟩ = some (.int .i64 s) := by rw [cc _ _ (by first | omega | (simp; done) | (simp; omega))]; first | assumption | (simp [go_sem, *]; done)
  have f0_1_9 : w9.frozen? ⟨w.heap.size, 1, none⟩ = false := by rw [ff _ _ (by first | omega | (simp; done) | (simp; omega))]; first | assumption | (simp [go_sem, *]; done)
  have lt1_9 : w.heap.size + 1 < w9.heap.size := by omega
  have c1_0_9 : w9.cell? ⟨w.heap.size + 1, 0, none⟩ = some (.int .i64 n) := by rw [cc _ _ (by first | omega | (simp; done) | (simp; omega))]; first | assumption | (simp [go_sem, *]; done)
  have f1_0_9 : w9.frozen? ⟨w.heap.size + 1, 0, none⟩ = false := by rw [ff _ _ (by first | omega | (simp; done) | (simp; omega))]; first | assumption | (simp [go_sem, *]; done)
  have c1_1_9 : w9.cell? ⟨w.heap.size + 1, 1, none⟩ = some (.int .i64 t) := by rw [cc _ _ (by first | omega | (simp; done) | (simp; omega))]; first | assumption | (simp [go_sem, *]; done)
  have f1_1_9 : w9.frozen? ⟨w.heap.size + 1, 1, none⟩ = false := by rw [ff _ _ (by first | omega | (simp; done) | (simp; omega))]; first | assumption | (simp [go_sem, *]; done)
  have lt2_9 : w.heap.size + 1 + 1 < w9.heap.size := by omega
  have c2_0_9 : w9.cell? ⟨w.heap.size + 1 + 1, 0, none⟩ = some (.int .i64 p) := by rw [cc _ _ (by first | omega | (simp; done) | (simp; omega))]; first | assumption | (simp [go_sem, *]; done)
  have c2_1_9 : w9.cell? ⟨w.heap.size + 1 + 1, 1, none⟩ = some (.int .i64 q) := by rw [cc _ _ (by first | omega | (simp; done) | (simp; omega))]; first | assumption | (simp [go_sem, *]; done)
  have lt3_9 : w2.heap.size < w9.heap.size := by omega
  have c3_0_9 : w9.cell? ⟨w2.heap.size, 0, none⟩ = some (.int .i64 x) := by rw [cc _ _ (by first | omega | (simp; done) | (simp; omega))]; first | assumption | (simp [go_sem, *]; done)
  have c3_1_9 : w9.cell? ⟨w2.heap.size, 1, none⟩ = some (.int .i64 y) := by rw [cc _ _ (by first | omega | (simp; done) | (simp; omega))]; first | assumption | (simp [go_sem, *]; done)
  have lt4_9 : w3.heap.size < w9.heap.size := by omega
  have c4_0_9 : w9.cell? ⟨w3.heap.size, 0, none⟩ = some (.int .i64 x) := by rw [cc _ _ (by first | omega | (simp; done) | (simp; omega))]; first | assumption | (simp [go_sem, *]; done)
  have c4_1_9 : w9.cell? ⟨w3.heap.size, 1, none⟩ = some (.int .i64 y) := by rw [cc _ _ (by first | omega | (simp; done) | (simp; omega))]; first | assumption | (simp [go_sem, *]; done)
  have lt5_9 : w5.heap.size < w9.heap.size := by omega
  have c5_0_9 : w9.cell? ⟨w5.heap.size, 0, none⟩ = some (.int .i64 m) := by rw [cc _ _ (by first | omega | (simp; done) | (simp; omega))]; first | assumption | (simp [go_sem, *]; done)
  have c5_1_9 : w9.cell? ⟨w5.heap.size, 1, none⟩ = some (.int .i64 s) := by rw [cc _ _ (by first | omega | (simp; done) | (simp; omega))]; first | assumption | (simp [go_sem, *]; done)
  have lt6_9 : w8.heap.size < w9.heap.size := by omega
  have c6_0_9 : w9.cell? ⟨w8.heap.size, 0, none⟩ = some (.int .i64 u1) := by rw [cc _ _ (by first | omega | (simp; done) | (simp; omega))]; first | assumption | (simp [go_sem, *]; done)
  have c6_1_9 : w9.cell? ⟨w8.heap.size, 1, none⟩ = some (.int .i64 u2) := by rw [cc _ _ (by first | omega | (simp; done) | (simp; omega))]; first | assumption | (simp [go_sem, *]; done)
  clear cc ff hb9 lt0_8 c0_0_8 f0_0_8 c0_1_8 f0_1_8 lt1_8 c1_0_8 f1_0_8 c1_1_8 f1_1_8 lt2_8 c2_0_8 c2_1_8 lt3_8 c3_0_8 c3_1_8 lt4_8 c4_0_8 c4_1_8 lt5_8 c5_0_8 c5_1_8
  go_wp2_with fail
  go_region
  go_wp2_with fail
  refine (HV.out _).mono ?_; rintro e w10 ⟨rfl, hb10⟩
  obtain ⟨cc, ff⟩ := bcell hb10
  have sz10 : w9.heap.size ≤ w10.heap.size := by have := hb10.size; first | exact this | (simp at this; omega)
  have bw10 : Below w.heap.size w w10 := by
    refine Below.trans ?_ (hb10.mono (by first | omega | (simp; done) | (simp; omega)))
    go_grown
  have lt3_10 : w2.heap.size < w10.heap.size := by omega
  have c3_0_10 : w10.cell? ⟨w2.heap.size, 0, none⟩ = some (.int .i64 x) := by rw [cc _ _ (by first | omega | (simp; done) | (simp; omega))]; first | assumption | (simp [go_sem, *]; done)
  have c3_1_10 : w10.cell? ⟨w2.heap.size, 1, none⟩ = some (.int .i64 y) := by rw [cc _ _ (by first | omega | (simp; done) | (simp; omega))]; first | assumption | (simp [go_sem, *]; done)
  clear cc ff hb10 lt0_9 c0_0_9 f0_0_9 c0_1_9 f0_1_9 lt1_9 c1_0_9 f1_0_9 c1_1_9 f1_1_9 lt2_9 c2_0_9 c2_1_9 lt3_9 c3_0_9 c3_1_9 lt4_9 c4_0_9 c4_1_9 lt5_9 c5_0_9 c5_1_9 lt6_9 c6_0_9 c6_1_9
  go_wp2_with fail
  go_ret
  refine ⟨rfl, ?_⟩
  go_grown
set_option maxRecDepth 100000 in
set_option maxHeartbeats 2000000 in
theorem sums_hbad_ma (m s n t p q x y e0 u1 u2 n1 h i m1 j : Int) (w : World) (he : Env w)
    (HS : Hid (∀ w, Calls Tryd.prog 11 #[.agg #[.int .i64 m, .int .i64 s], .agg #[.int .i64 n, .int .i64 t]] w fun e w' => e = .returned (.tuple #[.agg #[.int .i64 x, .int .i64 y], .int .i64 0]) ∧ Below w.heap.size w w'))
    (HT : Hid (∀ w, Calls Tryd.prog 11 #[.agg #[.int .i64 n, .int .i64 t], .agg #[.int .i64 m, .int .i64 s]] w fun e w' => e = .returned (.tuple #[.agg #[.int .i64 x, .int .i64 y], .int .i64 0]) ∧ Below w.heap.size w w'))
    (HK : Hid (∀ w, Calls Tryd.prog 15 #[.agg #[.int .i64 x, .int .i64 y]] w fun e w' => e = .returned (.int .i64 0) ∧ Below w.heap.size w w'))
    (HZ : Hid (∀ w, Calls Tryd.prog 11 #[.agg #[.int .i64 m, .int .i64 s], .agg #[.int .i64 0, .int .i64 0]] w fun e w' => e = .returned (.tuple #[.agg #[.int .i64 m, .int .i64 s], .int .i64 0]) ∧ Below w.heap.size w w'))
    (HA : Hid (∀ w, Calls Tryd.prog 15 #[.agg #[.int .i64 m, .int .i64 s]] w fun e w' => e = .returned (.int .i64 0) ∧ Below w.heap.size w w'))
    (HN : Hid (∀ w, Calls Tryd.prog 13 #[.agg #[.int .i64 m, .int .i64 s], .agg #[.int .i64 p, .int .i64 q]] w fun e w' => e = .returned (.tuple #[.int .i64 n1, .int .i64 140]) ∧ Below w.heap.size w w'))
    (HU : Hid (∀ w, Calls Tryd.prog 11 #[.agg #[.int .i64 p, .int .i64 q], .agg #[.int .i64 n, .int .i64 t]] w fun e w' => e = .returned (.tuple #[.agg #[.int .i64 u1, .int .i64 u2], .int .i64 i]) ∧ Below w.heap.size w w'))
    (HM : Hid (∀ w, Calls Tryd.prog 13 #[.agg #[.int .i64 x, .int .i64 y], .agg #[.int .i64 u1, .int .i64 u2]] w fun e w' => e = .returned (.tuple #[.int .i64 m1, .int .i64 j]) ∧ Below w.heap.size w w'))
    (hy1 : (m == -9223372036854775808) = true) :
    Calls Tryd.prog 8 #[.agg #[.int .i64 m, .int .i64 s], .agg #[.int .i64 n, .int .i64 t], .agg #[.int .i64 p, .int .i64 q]] w fun e w' => e = .returned (.bool true) ∧ Below w.heap.size w w' := by
  have HL := Lib.hid (fun w he => alive_true w he)
  go_enter Tryd.func8, Tryd.ntmps8
  go_wp2_with fail
  refine (HL.out _ (he.stays (by go_grown))).mono ?_; rintro e w1 ⟨rfl, hb1⟩
  obtain ⟨cc, ff⟩ := bcell hb1
  have sz1 : w.heap.size + 1 + 1 + 1 ≤ w1.heap.size := by have := hb1.size; first | exact this | (simp at this; omega)
  have bw1 : Below w.heap.size w w1 := by
    refine Below.trans ?_ (hb1.mono (by first | omega | (simp; done) | (simp; omega)))
    go_grown
  have lt0_1 : w.heap.size < w1.heap.size := by omega
  have c0_0_1 : w1.cell? ⟨w.heap.size, 0, none⟩ = some (.int .i64 m) := by rw [cc _ _ (by first | omega | (simp; done) | (simp; omega))]; first | assumption | (simp [go_sem, *]; done)
  have c0_1_1 : w1.cell? ⟨w.heap.size, 1, none⟩ = some (.int .i64 s) := by rw [cc _ _ (by first | omega | (simp; done) | (simp; omega))]; first | assumption | (simp [go_sem, *]; done)
  have lt1_1 : w.heap.size + 1 < w1.heap.size := by omega
  have c1_0_1 : w1.cell? ⟨w.heap.size + 1, 0, none⟩ = some (.int .i64 n) := by rw [cc _ _ (by first | omega | (simp; done) | (simp; omega))]; first | assumption | (simp [go_sem, *]; done)
  have c1_1_1 : w1.cell? ⟨w.heap.size + 1, 1, none⟩ = some (.int .i64 t) := by rw [cc _ _ (by first | omega | (simp; done) | (simp; omega))]; first | assumption | (simp [go_sem, *]; done)
  have lt2_1 : w.heap.size + 1 + 1 < w1.heap.size := by omega
  have c2_0_1 : w1.cell? ⟨w.heap.size + 1 + 1, 0, none⟩ = some (.int .i64 p) := by rw [cc _ _ (by first | omega | (simp; done) | (simp; omega))]; first | assumption | (simp [go_sem, *]; done)
  have c2_1_1 : w1.cell? ⟨w.heap.size + 1 + 1, 1, none⟩ = some (.int .i64 q) := by rw [cc _ _ (by first | omega | (simp; done) | (simp; omega))]; first | assumption | (simp [go_sem, *]; done)
  clear cc ff hb1
  go_wp2_with fail
  refine (HS.out _).mono ?_; rintro e w2 ⟨rfl, hb2⟩
  obtain ⟨cc, ff⟩ := bcell hb2
  have sz2 : w1.heap.size ≤ w2.heap.size := by have := hb2.size; first | exact this | (simp at this; omega)
  have bw2 : Below w.heap.size w w2 := by
    refine Below.trans ?_ (hb2.mono (by first | omega | (simp; done) | (simp; omega)))
    go_grown
  have lt0_2 : w.heap.size < w2.heap.size := by omega
  have c0_0_2 : w2.cell? ⟨w.heap.size, 0, none⟩ = some (.int .i64 m) := by rw [cc _ _ (by first | omega | (simp; done) | (simp; omega))]; first | assumption | (simp [go_sem, *]; done)
  have c0_1_2 : w2.cell? ⟨w.heap.size, 1, none⟩ = some (.int .i64 s) := by rw [cc _ _ (by first | omega | (simp; done) | (simp; omega))]; first | assumption | (simp [go_sem, *]; done)
  have lt1_2 : w.heap.size + 1 < w2.heap.size := by omega
  have c1_0_2 : w2.cell? ⟨w.heap.size + 1, 0, none⟩ = some (.int .i64 n) := by rw [cc _ _ (by first | omega | (simp; done) | (simp; omega))]; first | assumption | (simp [go_sem, *]; done)
  have c1_1_2 : w2.cell? ⟨w.heap.size + 1, 1, none⟩ = some (.int .i64 t) := by rw [cc _ _ (by first | omega | (simp; done) | (simp; omega))]; first | assumption | (simp [go_sem, *]; done)
  have lt2_2 : w.heap.size + 1 + 1 < w2.heap.size := by omega
  have c2_0_2 : w2.cell? ⟨w.heap.size + 1 + 1, 0, none⟩ = some (.int .i64 p) := by rw [cc _ _ (by first | omega | (simp; done) | (simp; omega))]; first | assumption | (simp [go_sem, *]; done)
  have c2_1_2 : w2.cell? ⟨w.heap.size + 1 + 1, 1, none⟩ = some (.int .i64 q) := by rw [cc _ _ (by first | omega | (simp; done) | (simp; omega))]; first | assumption | (simp [go_sem, *]; done)
  clear cc ff hb2 lt0_1 c0_0_1 c0_1_1 lt1_1 c1_0_1 c1_1_1 lt2_1 c2_0_1 c2_1_1
  go_wp2_with fail
  refine (HT.out _).mono ?_; rintro e w3 ⟨rfl, hb3⟩
  obtain ⟨cc, ff⟩ := bcell hb3
  have sz3 : w2.heap.size + 1 ≤ w3.heap.size := by have := hb3.size; first | exact this | (simp at this; omega)
  have bw3 : Below w.heap.size w w3 := by
    refine Below.trans ?_ (hb3.mono (by first | omega | (simp; done) | (simp; omega)))
    go_grown
  have lt0_3 : w.heap.size < w3.heap.size := by omega
  have c0_0_3 : w3.cell? ⟨w.heap.size, 0, none⟩ = some (.int .i64 m) := by rw [cc _ _ (by first | omega | (simp; done) | (simp; omega))]; first | assumption | (simp [go_sem, *]; done)
  have c0_1_3 : w3.cell? ⟨w.heap.size, 1, none⟩ = some (.int .i64 s) := by rw [cc _ _ (by first | omega | (simp; done) | (simp; omega))]; first | assumption | (simp [go_sem, *]; done)
  have lt1_3 : w.heap.size + 1 < w3.heap.size := by omega
  have c1_0_3 : w3.cell? ⟨w.heap.size + 1, 0, none⟩ = some (.int .i64 n) := by rw [cc _ _ (by first | omega | (simp; done) | (simp; omega))]; first | assumption | (simp [go_sem, *]; done)
  have c1_1_3 : w3.cell? ⟨w.heap.size + 1, 1, none⟩ = some (.int .i64 t) := by rw [cc _ _ (by first | omega | (simp; done) | (simp; omega))]; first | assumption | (simp [go_sem, *]; done)
  have lt2_3 : w.heap.size + 1 + 1 < w3.heap.size := by omega
  have c2_0_3 : w3.cell? ⟨w.heap.size + 1 + 1, 0, none⟩ = some (.int .i64 p) := by rw [cc _ _ (by first | omega | (simp; done) | (simp; omega))]; first | assumption | (simp [go_sem, *]; done)
  have c2_1_3 : w3.cell? ⟨w.heap.size + 1 + 1, 1, none⟩ = some (.int .i64 q) := by rw [cc _ _ (by first | omega | (simp; done) | (simp; omega))]; first | assumption | (simp [go_sem, *]; done)
  have lt3_3 : w2.heap.size < w3.heap.size := by omega
  have c3_0_3 : w3.cell? ⟨w2.heap.size, 0, none⟩ = some (.int .i64 x) := by rw [cc _ _ (by first | omega | (simp; done) | (simp; omega))]; first | assumption | (simp [go_sem, *]; done)
  have c3_1_3 : w3.cell? ⟨w2.heap.size, 1, none⟩ = some (.int .i64 y) := by rw [cc _ _ (by first | omega | (simp; done) | (simp; omega))]; first | assumption | (simp [go_sem, *]; done)
  clear cc ff hb3 lt0_2 c0_0_2 c0_1_2 lt1_2 c1_0_2 c1_1_2 lt2_2 c2_0_2 c2_1_2
  go_wp2_with fail
  refine (HK.out _).mono ?_; rintro e w4 ⟨rfl, hb4⟩
  obtain ⟨cc, ff⟩ := bcell hb4
  have sz4 : w3.heap.size + 1 ≤ w4.heap.size := by have := hb4.size; first | exact this | (simp at this; omega)
  have bw4 : Below w.heap.size w w4 := by
    refine Below.trans ?_ (hb4.mono (by first | omega | (simp; done) | (simp; omega)))
    go_grown
  have lt0_4 : w.heap.size < w4.heap.size := by omega
  have c0_0_4 : w4.cell? ⟨w.heap.size, 0, none⟩ = some (.int .i64 m) := by rw [cc _ _ (by first | omega | (simp; done) | (simp; omega))]; first | assumption | (simp [go_sem, *]; done)
  have c0_1_4 : w4.cell? ⟨w.heap.size, 1, none⟩ = some (.int .i64 s) := by rw [cc _ _ (by first | omega | (simp; done) | (simp; omega))]; first | assumption | (simp [go_sem, *]; done)
  have lt1_4 : w.heap.size + 1 < w4.heap.size := by omega
  have c1_0_4 : w4.cell? ⟨w.heap.size + 1, 0, none⟩ = some (.int .i64 n) := by rw [cc _ _ (by first | omega | (simp; done) | (simp; omega))]; first | assumption | (simp [go_sem, *]; done)
  have c1_1_4 : w4.cell? ⟨w.heap.size + 1, 1, none⟩ = some (.int .i64 t) := by rw [cc _ _ (by first | omega | (simp; done) | (simp; omega))]; first | assumption | (simp [go_sem, *]; done)
  have lt2_4 : w.heap.size + 1 + 1 < w4.heap.size := by omega
  have c2_0_4 : w4.cell? ⟨w.heap.size + 1 + 1, 0, none⟩ = some (.int .i64 p) := by rw [cc _ _ (by first | omega | (simp; done) | (simp; omega))]; first | assumption | (simp [go_sem, *]; done)
  have c2_1_4 : w4.cell? ⟨w.heap.size + 1 + 1, 1, none⟩ = some (.int .i64 q) := by rw [cc _ _ (by first | omega | (simp; done) | (simp; omega))]; first | assumption | (simp [go_sem, *]; done)
  have lt3_4 : w2.heap.size < w4.heap.size := by omega
  have c3_0_4 : w4.cell? ⟨w2.heap.size, 0, none⟩ = some (.int .i64 x) := by rw [cc _ _ (by first | omega | (simp; done) | (simp; omega))]; first | assumption | (simp [go_sem, *]; done)
  have c3_1_4 : w4.cell? ⟨w2.heap.size, 1, none⟩ = some (.int .i64 y) := by rw [cc _ _ (by first | omega | (simp; done) | (simp; omega))]; first | assumption | (simp [go_sem, *]; done)
  have lt4_4 : w3.heap.size < w4.heap.size := by omega
  have c4_0_4 : w4.cell? ⟨w3.heap.size, 0, none⟩ = some (.int .i64 x) := by rw [cc _ _ (by first | omega | (simp; done) | (simp; omega))]; first | assumption | (simp [go_sem, *]; done)
  have c4_1_4 : w4.cell? ⟨w3.heap.size, 1, none⟩ = some (.int .i64 y) := by rw [cc _ _ (by first | omega | (simp; done) | (simp; omega))]; first | assumption | (simp [go_sem, *]; done)
  clear cc ff hb4 lt0_3 c0_0_3 c0_1_3 lt1_3 c1_0_3 c1_1_3 lt2_3 c2_0_3 c2_1_3 lt3_3 c3_0_3 c3_1_3
  go_wp2_with fail
  refine (HZ.out _).mono ?_; rintro e w5 ⟨rfl, hb5⟩
  obtain ⟨cc, ff⟩ := bcell hb5
  have sz5 : w4.heap.size ≤ w5.heap.size := by have := hb5.size; first | exact this | (simp at this; omega)
  have bw5 : Below w.heap.size w w5 := by
    refine Below.trans ?_ (hb5.mono (by first | omega | (simp; done) | (simp; omega)))
    go_grown
  have lt0_5 : w.heap.size < w5.heap.size := by omega
  have c0_0_5 : w5.cell? ⟨w.heap.size, 0, none⟩ = some (.int .i64 m) := by rw [cc _ _ (by first | omega | (simp; done) | (simp; omega))]; first | assumption | (simp [go_sem, *]; done)
  have c0_1_5 : w5.cell? ⟨w.heap.size, 1, none⟩ = some (.int .i64 s) := by rw [cc _ _ (by first | omega | (simp; done) | (simp; omega))]; first | assumption | (simp [go_sem, *]; done)
  have lt1_5 : w.heap.size + 1 < w5.heap.size := by omega
  have c1_0_5 : w5.cell? ⟨w.heap.size + 1, 0, none⟩ = some (.int .i64 n) := by rw [cc _ _ (by first | omega | (simp; done) | (simp; omega))]; first | assumption | (simp [go_sem, *]; done)
  have c1_1_5 : w5.cell? ⟨w.heap.size + 1, 1, none⟩ = some (.int .i64 t) := by rw [cc _ _ (by first | omega | (simp; done) | (simp; omega))]; first | assumption | (simp [go_sem, *]; done)
  have lt2_5 : w.heap.size + 1 + 1 < w5.heap.size := by omega
  have c2_0_5 : w5.cell? ⟨w.heap.size + 1 + 1, 0, none⟩ = some (.int .i64 p) := by rw [cc _ _ (by first | omega | (simp; done) | (simp; omega))]; first | assumption | (simp [go_sem, *]; done)
  have c2_1_5 : w5.cell? ⟨w.heap.size + 1 + 1, 1, none⟩ = some (.int .i64 q) := by rw [cc _ _ (by first | omega | (simp; done) | (simp; omega))]; first | assumption | (simp [go_sem, *]; done)
  have lt3_5 : w2.heap.size < w5.heap.size := by omega
  have c3_0_5 : w5.cell? ⟨w2.heap.size, 0, none⟩ = some (.int .i64 x) := by rw [cc _ _ (by first | omega | (simp; done) | (simp; omega))]; first | assumption | (simp [go_sem, *]; done)
  have c3_1_5 : w5.cell? ⟨w2.heap.size, 1, none⟩ = some (.int .i64 y) := by rw [cc _ _ (by first | omega | (simp; done) | (simp; omega))]; first | assumption | (simp [go_sem, *]; done)
  have lt4_5 : w3.heap.size < w5.heap.size := by omega
  have c4_0_5 : w5.cell? ⟨w3.heap.size, 0, none⟩ = some (.int .i64 x) := by rw [cc _ _ (by first | omega | (simp; done) | (simp; omega))]; first | assumption | (simp [go_sem, *]; done)
  have c4_1_5 : w5.cell? ⟨w3.heap.size, 1, none⟩ = some (.int .i64 y) := by rw [cc _ _ (by first | omega | (simp; done) | (simp; omega))]; first | assumption | (simp [go_sem, *]; done)
  clear cc ff hb5 lt0_4 c0_0_4 c0_1_4 lt1_4 c1_0_4 c1_1_4 lt2_4 c2_0_4 c2_1_4 lt3_4 c3_0_4 c3_1_4 lt4_4 c4_0_4 c4_1_4
  go_wp2_with fail
  refine (HA.out _).mono ?_; rintro e w6 ⟨rfl, hb6⟩
  obtain ⟨cc, ff⟩ := bcell hb6
  have sz6 : w5.heap.size + 1 ≤ w6.heap.size := by have := hb6.size; first | exact this | (simp at this; omega)
  have bw6 : Below w.heap.size w w6 := by
    refine Below.trans ?_ (hb6.mono (by first | omega | (simp; done) | (simp; omega)))
    go_grown
  have lt0_6 : w.heap.size < w6.heap.size := by omega
  have c0_0_6 : w6.cell? ⟨w.heap.size, 0, none⟩ = some (.int .i64 m) := by rw [cc _ _ (by first | omega | (simp; done) | (simp; omega))]; first | assumption | (simp [go_sem, *]; done)
  have c0_1_6 : w6.cell? ⟨w.heap.size, 1, none⟩ = some (.int .i64 s) := by rw [cc _ _ (by first | omega | (simp; done) | (simp; omega))]; first | assumption | (simp [go_sem, *]; done)
  have lt1_6 : w.heap.size + 1 < w6.heap.size := by omega
  have c1_0_6 : w6.cell? ⟨w.heap.size + 1, 0, none⟩ = some (.int .i64 n) := by rw [cc _ _ (by first | omega | (simp; done) | (simp; omega))]; first | assumption | (simp [go_sem, *]; done)
  have c1_1_6 : w6.cell? ⟨w.heap.size + 1, 1, none⟩ = some (.int .i64 t) := by rw [cc _ _ (by first | omega | (simp; done) | (simp; omega))]; first | assumption | (simp [go_sem, *]; done)
  have lt2_6 : w.heap.size + 1 + 1 < w6.heap.size := by omega
  have c2_0_6 : w6.cell? ⟨w.heap.size + 1 + 1, 0, none⟩ = some (.int .i64 p) := by rw [cc _ _ (by first | omega | (simp; done) | (simp; omega))]; first | assumption | (simp [go_sem, *]; done)
  have c2_1_6 : w6.cell? ⟨w.heap.size + 1 + 1, 1, none⟩ = some (.int .i64 q) := by rw [cc _ _ (by first | omega | (simp; done) | (simp; omega))]; first | assumption | (simp [go_sem, *]; done)
  have lt3_6 : w2.heap.size < w6.heap.size := by omega
  have c3_0_6 : w6.cell? ⟨w2.heap.size, 0, none⟩ = some (.int .i64 x) := by rw [cc _ _ (by first | omega | (simp; done) | (simp; omega))]; first | assumption | (simp [go_sem, *]; done)
  have c3_1_6 : w6.cell? ⟨w2.heap.size, 1, none⟩ = some (.int .i64 y) := by rw [cc _ _ (by first | omega | (simp; done) | (simp; omega))]; first | assumption | (simp [go_sem, *]; done)
  have lt4_6 : w3.heap.size < w6.heap.size := by omega
  have c4_0_6 : w6.cell? ⟨w3.heap.size, 0, none⟩ = some (.int .i64 x) := by rw [cc _ _ (by first | omega | (simp; done) | (simp; omega))]; first | assumption | (simp [go_sem, *]; done)
  have c4_1_6 : w6.cell? ⟨w3.heap.size, 1, none⟩ = some (.int .i64 y) := by rw [cc _ _ (by first | omega | (simp; done) | (simp; omega))]; first | assumption | (simp [go_sem, *]; done)
  have lt5_6 : w5.heap.size < w6.heap.size := by omega
  have c5_0_6 : w6.cell? ⟨w5.heap.size, 0, none⟩ = some (.int .i64 m) := by rw [cc _ _ (by first | omega | (simp; done) | (simp; omega))]; first | assumption | (simp [go_sem, *]; done)
  have c5_1_6 : w6.cell? ⟨w5.heap.size, 1, none⟩ = some (.int .i64 s) := by rw [cc _ _ (by first | omega | (simp; done) | (simp; omega))]; first | assumption | (simp [go_sem, *]; done)
  clear cc ff hb6 lt0_5 c0_0_5 c0_1_5 lt1_5 c1_0_5 c1_1_5 lt2_5 c2_0_5 c2_1_5 lt3_5 c3_0_5 c3_1_5 lt4_5 c4_0_5 c4_1_5
  go_wp2_with fail
  refine (HN.out _).mono ?_; rintro e w7 ⟨rfl, hb7⟩
  obtain ⟨cc, ff⟩ := bcell hb7
  have sz7 : w6.heap.size ≤ w7.heap.size := by have := hb7.size; first | exact this | (simp at this; omega)
  have bw7 : Below w.heap.size w w7 := by
    refine Below.trans ?_ (hb7.mono (by first | omega | (simp; done) | (simp; omega)))
    go_grown
  have lt0_7 : w.heap.size < w7.heap.size := by omega
  have c0_0_7 : w7.cell? ⟨w.heap.size, 0, none⟩ = some (.int .i64 m) := by rw [cc _ _ (by first | omega | (simp; done) | (simp; omega))]; first | assumption | (simp [go_sem, *]; done)
  have c0_1_7 : w7.cell? ⟨w.heap.size, 1, none⟩ = some (.int .i64 s) := by rw [cc _ _ (by first | omega | (simp; done) | (simp; omega))]; first | assumption | (simp [go_sem, *]; done)
  have lt1_7 : w.heap.size + 1 < w7.heap.size := by omega
  have c1_0_7 : w7.cell? ⟨w.heap.size + 1, 0, none⟩ = some (.int .i64 n) := by rw [cc _ _ (by first | omega | (simp; done) | (simp; omega))]; first | assumption | (simp [go_sem, *]; done)
  have c1_1_7 : w7.cell? ⟨w.heap.size + 1, 1, none⟩ = some (.int .i64 t) := by rw [cc _ _ (by first | omega | (simp; done) | (simp; omega))]; first | assumption | (simp [go_sem, *]; done)
  have lt2_7 : w.heap.size + 1 + 1 < w7.heap.size := by omega
  have c2_0_7 : w7.cell? ⟨w.heap.size + 1 + 1, 0, none⟩ = some (.int .i64 p) := by rw [cc _ _ (by first | omega | (simp; done) | (simp; omega))]; first | assumption | (simp [go_sem, *]; done)
  have c2_1_7 : w7.cell? ⟨w.heap.size + 1 + 1, 1, none⟩ = some (.int .i64 q) := by rw [cc _ _ (by first | omega | (simp; done) | (simp; omega))]; first | assumption | (simp [go_sem, *]; done)
  have lt3_7 : w2.heap.size < w7.heap.size := by omega
  have c3_0_7 : w7.cell? ⟨w2.heap.size, 0, none⟩ = some (.int .i64 x) := by rw [cc _ _ (by first | omega | (simp; done) | (simp; omega))]; first | assumption | (simp [go_sem, *]; done)
  have c3_1_7 : w7.cell? ⟨w2.heap.size, 1, none⟩ = some (.int .i64 y) := by rw [cc _ _ (by first | omega | (simp; done) | (simp; omega))]; first | assumption | (simp [go_sem, *]; done)
  have lt4_7 : w3.heap.size < w7.heap.size := by omega
  have c4_0_7 : w7.cell? ⟨w3.heap.size, 0, none⟩ = some (.int .i64 x) := by rw [cc _ _ (by first | omega | (simp; done) | (simp; omega))]; first | assumption | (simp [go_sem, *]; done)
  have c4_1_7 : w7.cell? ⟨w3.heap.size, 1, none⟩ = some (.int .i64 y) := by rw [cc _ _ (by first | omega | (simp; done) | (simp; omega))]; first | assumption | (simp [go_sem, *]; done)
  have lt5_7 : w5.heap.size < w7.heap.size := by omega
  have c5_0_7 : w7.cell? ⟨w5.heap.size, 0, none⟩ = some (.int .i64 m) := by rw [cc _ _ (by first | omega | (simp; done) | (simp; omega))]; first | assumption | (simp [go_sem, *]; done)
  have c5_1_7 : w7.cell? ⟨w5.heap.size, 1, none⟩ = some (.int .i64 s) := by rw [cc _ _ (by first | omega | (simp; done) | (simp; omega))]; first | assumption | (simp [go_sem, *]; done)
  clear cc ff hb7 lt0_6 c0_0_6 c0_1_6 lt1_6 c1_0_6 c1_1_6 lt2_6 c2_0_6 c2_1_6 lt3_6 c3_0_6 c3_1_6 lt4_6 c4_0_6 c4_1_6 lt5_6 c5_0_6 c5_1_6
  go_wp2_with fail
  refine (HU.out _).mono ?_; rintro e w8 ⟨rfl, hb8⟩
  obtain ⟨cc, ff⟩ := bcell hb8
  have sz8 : w7.heap.size ≤ w8.heap.size := by have := hb8.size; first | exact this | (simp at this; omega)
  have bw8 : Below w.heap.size w w8 := by
    refine Below.trans ?_ (hb8.mono (by first | omega | (simp; done) | (simp; omega)))
    go_grown
  have lt0_8 : w.heap.size < w8.heap.size := by omega
  have c0_0_8 : w8.cell? ⟨w.heap.size, 0, none⟩ = some (.int .i64 m) := by rw [cc _ _ (by first | omega | (simp; done) | (simp; omega))]; first | assumption | (simp [go_sem, *]; done)
  have c0_1_8 : w8.cell? ⟨w.heap.size, 1, none⟩ = some (.int .i64 s) := by rw [cc _ _ (by first | omega | (simp; done) | (simp; omega))]; first | assumption | (simp [go_sem, *]; done)
  have lt1_8 : w.heap.size + 1 < w8.heap.size := by omega
  have c1_0_8 : w8.cell? ⟨w.heap.size + 1, 0, none⟩ = some (.int .i64 n) := by rw [cc _ _ (by first | omega | (simp; done) | (simp; omega))]; first | assumption | (simp [go_sem, *]; done)
  have c1_1_8 : w8.cell? ⟨w.heap.size + 1, 1, none⟩ = some (.int .i64 t) := by rw [cc _ _ (by first | omega | (simp; done) | (simp; omega))]; first | assumption | (simp [go_sem, *]; done)
  have lt2_8 : w.heap.size + 1 + 1 < w8.heap.size := by omega
  have c2_0_8 : w8.cell? ⟨w.heap.size + 1 + 1, 0, none⟩ = some (.int .i64 p) := by rw [cc _ _ (by first | omega | (simp; done) | (simp; omega))]; first | assumption | (simp [go_sem, *]; done)
  have c2_1_8 : w8.cell? ⟨w.heap.size + 1 + 1, 1, none⟩ = some (.int .i64 q) := by rw [cc _ _ (by first | omega | (simp; done) | (simp; omega))]; first | assumption | (simp [go_sem, *]; done)
  have lt3_8 : w2.heap.size < w8.heap.size := by omega
  have c3_0_8 : w8.cell? ⟨w2.heap.size, 0, none⟩ = some (.int .i64 x) := by rw [cc _ _ (by first | omega | (simp; done) | (simp; omega))]; first | assumption | (simp [go_sem, *]; done)
  have c3_1_8 : w8.cell? ⟨w2.heap.size, 1, none⟩ = some (.int .i64 y) := by rw [cc _ _ (by first | omega | (simp; done) | (simp; omega))]; first | assumption | (simp [go_sem, *]; done)
  have lt4_8 : w3.heap.size < w8.heap.size := by omega
  have c4_0_8 : w8.cell? ⟨w3.heap.size, 0, none⟩ = some (.int .i64 x) := by rw [cc _ _ (by first | omega | (simp; done) | (simp; omega))]; first | assumption | (simp [go_sem, *]; done)
  have c4_1_8 : w8.cell? ⟨w3.heap.size, 1, none⟩ = some (.int .i64 y) := by rw [cc _ _ (by first | omega | (simp; done) | (simp; omega))]; first | assumption | (simp [go_sem, *]; done)
  have lt5_8 : w5.heap.size < w8.heap.size := by omega
  have c5_0_8 : w8.cell? ⟨w5.heap.size, 0, none⟩ = some (.int .i64 m) := by rw [cc _ _ (by first | omega | (simp; done) | (simp; omega))]; first | assumption | (simp [go_sem, *]; done)
  have c5_1_8 : w8.cell? ⟨w5.heap.size, 1, none⟩ = some (.int .i64 s) := by rw [cc _ _ (by first | omega | (simp; done) | (simp; omega))]; first | assumption | (simp [go_sem, *]; done)
  clear cc ff hb8 lt0_7 c0_0_7 c0_1_7 lt1_7 c1_0_7 c1_1_7 lt2_7 c2_0_7 c2_1_7 lt3_7 c3_0_7 c3_1_7 lt4_7 c4_0_7 c4_1_7 lt5_7 c5_0_7 c5_1_7
  go_wp2_with fail
  refine (HM.out _).mono ?_; rintro e w9 ⟨rfl, hb9⟩
  obtain ⟨cc, ff⟩ := bcell hb9
  have sz9 : w8.heap.size + 1 ≤ w9.heap.size := by have := hb9.size; first | exact this | (simp at this; omega)
  have bw9 : Below w.heap.size w w9 := by
    refine Below.trans ?_ (hb9.mono (by first | omega | (simp; done) | (simp; omega)))
    go_grown
  have lt0_9 : w.heap.size < w9.heap.size := by omega
  have c0_0_9 : w9.cell? ⟨w.heap.size, 0, none⟩ = some (.int .i64 m) := by rw [cc _ _ (by first | omega | (simp; done) | (simp; omega))]; first | assumption | (simp [go_sem, *]; done)
  have c0_1_9 : w9.cell? ⟨w.heap.size, 1, none⟩ = some (.int .i64 s) := by rw [cc _ _ (by first | omega | (simp; done) | (simp; omega))]; first | assumption | (simp [go_sem, *]; done)
  have lt1_9 : w.heap.size + 1 < w9.heap.size := by omega
  have c1_0_9 : w9.cell? ⟨w.heap.size + 1, 0, none⟩ = some (.int .i64 n) := by rw [cc _ _ (by first | omega | (simp; done) | (simp; omega))]; first | assumption | (simp [go_sem, *]; done)
  have c1_1_9 : w9.cell? ⟨w.heap.size + 1, 1, none⟩ = some (.int .i64 t) := by rw [cc _ _ (by first | omega | (simp; done) | (simp; omega))]; first | assumption | (simp [go_sem, *]; done)
  have lt2_9 : w.heap.size + 1 + 1 < w9.heap.size := by omega
  have c2_0_9 : w9.cell? ⟨w.heap.size + 1 + 1, 0, none⟩ = some (.int .i64 p) := by rw [cc _ _ (by first | omega | (simp; done) | (simp; omega))]; first | assumption | (simp [go_sem, *]; done)
  have c2_1_9 : w9.cell? ⟨w.heap.size + 1 + 1, 1, none⟩ = some (.int .i64 q) := by rw [cc _ _ (by first | omega | (simp; done) | (simp; omega))]; first | assumption | (simp [go_sem, *]; done)
  have lt3_9 : w2.heap.size < w9.heap.size := by omega
  have c3_0_9 : w9.cell? ⟨w2.heap.size, 0, none⟩ = some (.int .i64 x) := by rw [cc _ _ (by first | omega | (simp; done) | (simp; omega))]; first | assumption | (simp [go_sem, *]; done)
  have c3_1_9 : w9.cell? ⟨w2.heap.size, 1, none⟩ = some (.int .i64 y) := by rw [cc _ _ (by first | omega | (simp; done) | (simp; omega))]; first | assumption | (simp [go_sem, *]; done)
  have lt4_9 : w3.heap.size < w9.heap.size := by omega
  have c4_0_9 : w9.cell? ⟨w3.heap.size, 0, none⟩ = some (.int .i64 x) := by rw [cc _ _ (by first | omega | (simp; done) | (simp; omega))]; first | assumption | (simp [go_sem, *]; done)
  have c4_1_9 : w9.cell? ⟨w3.heap.size, 1, none⟩ = some (.int .i64 y) := by rw [cc _ _ (by first | omega | (simp; done) | (simp; omega))]; first | assumption | (simp [go_sem, *]; done)
  have lt5_9 : w5.heap.size < w9.heap.size := by omega
  have c5_0_9 : w9.cell? ⟨w5.heap.size, 0, none⟩ = some (.int .i64 m) := by rw [cc _ _ (by first | omega | (simp; done) | (simp; omega))]; first | assumption | (simp [go_sem, *]; done)
  have c5_1_9 : w9.cell? ⟨w5.heap.size, 1, none⟩ = some (.int .i64 s) := by rw [cc _ _ (by first | omega | (simp; done) | (simp; omega))]; first | assumption | (simp [go_sem, *]; done)
  have lt6_9 : w8.heap.size < w9.heap.size := by omega
  have c6_0_9 : w9.cell? ⟨w8.heap.size, 0, none⟩ = some (.int .i64 u1) := by rw [cc _ _ (by first | omega | (simp; done) | (simp; omega))]; first | assumption | (simp [go_sem, *]; done)
  have c6_1_9 : w9.cell? ⟨w8.heap.size, 1, none⟩ = some (.int .i64 u2) := by rw [cc _ _ (by first | omega | (simp; done) | (simp; omega))]; first | assumption | (simp [go_sem, *]; done)
  clear cc ff hb9 lt0_8 c0_0_8 c0_1_8 lt1_8 c1_0_8 c1_1_8 lt2_8 c2_0_8 c2_1_8 lt3_8 c3_0_8 c3_1_8 lt4_8 c4_0_8 c4_1_8 lt5_8 c5_0_8 c5_1_8
  go_wp2_with fail
  go_ret
  refine ⟨rfl, ?_⟩
  go_grown
set_option maxRecDepth 100000 in
set_option maxHeartbeats 2000000 in
theorem sums_hbad_mb (m s n t p q x y e0 u1 u2 n1 h i m1 j : Int) (w : World) (he : Env w)
    (HS : Hid (∀ w, Calls Tryd.prog 11 #[.agg #[.int .i64 m, .int .i64 s], .agg #[.int .i64 n, .int .i64 t]] w fun e w' => e = .returned (.tuple #[.agg #[.int .i64 x, .int .i64 y], .int .i64 0]) ∧ Below w.heap.size w w'))
    (HT : Hid (∀ w, Calls Tryd.prog 11 #[.agg #[.int .i64 n, .int .i64 t], .agg #[.int .i64 m, .int .i64 s]] w fun e w' => e = .returned (.tuple #[.agg #[.int .i64 x, .int .i64 y], .int .i64 0]) ∧ Below w.heap.size w w'))
    (HK : Hid (∀ w, Calls Tryd.prog 15 #[.agg #[.int .i64 x, .int .i64 y]] w fun e w' => e = .returned (.int .i64 0) ∧ Below w.heap.size w w'))
    (HZ : Hid (∀ w, Calls Tryd.prog 11 #[.agg #[.int .i64 m, .int .i64 s], .agg #[.int .i64 0, .int .i64 0]] w fun e w' => e = .returned (.tuple #[.agg #[.int .i64 m, .int .i64 s], .int .i64 0]) ∧ Below w.heap.size w w'))
    (HA : Hid (∀ w, Calls Tryd.prog 15 #[.agg #[.int .i64 m, .int .i64 s]] w fun e w' => e = .returned (.int .i64 0) ∧ Below w.heap.size w w'))
    (HN : Hid (∀ w, Calls Tryd.prog 13 #[.agg #[.int .i64 m, .int .i64 s], .agg #[.int .i64 p, .int .i64 q]] w fun e w' => e = .returned (.tuple #[.int .i64 n1, .int .i64 140]) ∧ Below w.heap.size w w'))
    (HU : Hid (∀ w, Calls Tryd.prog 11 #[.agg #[.int .i64 p, .int .i64 q], .agg #[.int .i64 n, .int .i64 t]] w fun e w' => e = .returned (.tuple #[.agg #[.int .i64 u1, .int .i64 u2], .int .i64 i]) ∧ Below w.heap.size w w'))
    (HM : Hid (∀ w, Calls Tryd.prog 13 #[.agg #[.int .i64 x, .int .i64 y], .agg #[.int .i64 u1, .int .i64 u2]] w fun e w' => e = .returned (.tuple #[.int .i64 m1, .int .i64 j]) ∧ Below w.heap.size w w'))
    (hy1 : (m == -9223372036854775808) = false) (hy2 : (n == -9223372036854775808) = true) :
    Calls Tryd.prog 8 #[.agg #[.int .i64 m, .int .i64 s], .agg #[.int .i64 n, .int .i64 t], .agg #[.int .i64 p, .int .i64 q]] w fun e w' => e = .returned (.bool true) ∧ Below w.heap.size w w' := by
  have HL := Lib.hid (fun w he => alive_true w he)
  go_enter Tryd.func8, Tryd.ntmps8
  go_wp2_with fail
  refine (HL.out _ (he.stays (by go_grown))).mono ?_; rintro e w1 ⟨rfl, hb1⟩
  obtain ⟨cc, ff⟩ := bcell hb1
  have sz1 : w.heap.size + 1 + 1 + 1 ≤ w1.heap.size := by have := hb1.size; first | exact this | (simp at this; omega)
  have bw1 : Below w.heap.size w w1 := by
    refine Below.trans ?_ (hb1.mono (by first | omega | (simp; done) | (simp; omega)))
    go_grown
  have lt0_1 : w.heap.size < w1.heap.size := by omega
  have c0_0_1 : w1.cell? ⟨w.heap.size, 0, none⟩ = some (.int .i64 m) := by rw [cc _ _ (by first | omega | (simp; done) | (simp; omega))]; first | assumption | (simp [go_sem, *]; done)
  have c0_1_1 : w1.cell? ⟨w.heap.size, 1, none⟩ = some (.int .i64 s) := by rw [cc _ _ (by first | omega | (simp; done) | (simp; omega))]; first | assumption | (simp [go_sem, *]; done)
  have lt1_1 : w.heap.size + 1 < w1.heap.size := by omega
  have c1_0_1 : w1.cell? ⟨w.heap.size + 1, 0, none⟩ = some (.int .i64 n) := by rw [cc _ _ (by first | omega | (simp; done) | (simp; omega))]; first | assumption | (simp [go_sem, *]; done)
  have c1_1_1 : w1.cell? ⟨w.heap.size + 1, 1, none⟩ = some (.int .i64 t) := by rw [cc _ _ (by first | omega | (simp; done) | (simp; omega))]; first | assumption | (simp [go_sem, *]; done)
  have lt2_1 : w.heap.size + 1 + 1 < w1.heap.size := by omega
  have c2_0_1 : w1.cell? ⟨w.heap.size + 1 + 1, 0, none⟩ = some (.int .i64 p) := by rw [cc _ _ (by first | omega | (simp; done) | (simp; omega))]; first | assumption | (simp [go_sem, *]; done)
  have c2_1_1 : w1.cell? ⟨w.heap.size + 1 + 1, 1, none⟩ = some (.int .i64 q) := by rw [cc _ _ (by first | omega | (simp; done) | (simp; omega))]; first | assumption | (simp [go_sem, *]; done)
  clear cc ff hb1
  go_wp2_with fail
  refine (HS.out _).mono ?_; rintro e w2 ⟨rfl, hb2⟩
  obtain ⟨cc, ff⟩ := bcell hb2
  have sz2 : w1.heap.size ≤ w2.heap.size := by have := hb2.size; first | exact this | (simp at this; omega)
  have bw2 : Below w.heap.size w w2 := by
    refine Below.trans ?_ (hb2.mono (by first | omega | (simp; done) | (simp; omega)))
    go_grown
  have lt0_2 : w.heap.size < w2.heap.size := by omega
  have c0_0_2 : w2.cell? ⟨w.heap.size, 0, none⟩ = some (.int .i64 m) := by rw [cc _ _ (by first | omega | (simp; done) | (simp; omega))]; first | assumption | (simp [go_sem, *]; done)
  have c0_1_2 : w2.cell? ⟨w.heap.size, 1, none⟩ = some (.int .i64 s) := by rw [cc _ _ (by first | omega | (simp; done) | (simp; omega))]; first | assumption | (simp [go_sem, *]; done)
  have lt1_2 : w.heap.size + 1 < w2.heap.size := by omega
  have c1_0_2 : w2.cell? ⟨w.heap.size + 1, 0, none⟩ = some (.int .i64 n) := by rw [cc _ _ (by first | omega | (simp; done) | (simp; omega))]; first | assumption | (simp [go_sem, *]; done)
  have c1_1_2 : w2.cell? ⟨w.heap.size + 1, 1, none⟩ = some (.int .i64 t) := by rw [cc _ _ (by first | omega | (simp; done) | (simp; omega))]; first | assumption | (simp [go_sem, *]; done)
  have lt2_2 : w.heap.size + 1 + 1 < w2.heap.size := by omega
  have c2_0_2 : w2.cell? ⟨w.heap.size + 1 + 1, 0, none⟩ = some (.int .i64 p) := by rw [cc _ _ (by first | omega | (simp; done) | (simp; omega))]; first | assumption | (simp [go_sem, *]; done)
  have c2_1_2 : w2.cell? ⟨w.heap.size + 1 + 1, 1, none⟩ = some (.int .i64 q) := by rw [cc _ _ (by first | omega | (simp; done) | (simp; omega))]; first | assumption | (simp [go_sem, *]; done)
  clear cc ff hb2 lt0_1 c0_0_1 c0_1_1 lt1_1 c1_0_1 c1_1_1 lt2_1 c2_0_1 c2_1_1
  go_wp2_with fail
  refine (HT.out _).mono ?_; rintro e w3 ⟨rfl, hb3⟩
  obtain ⟨cc, ff⟩ := bcell hb3
  have sz3 : w2.heap.size + 1 ≤ w3.heap.size := by have := hb3.size; first | exact this | (simp at this; omega)
  have bw3 : Below w.heap.size w w3 := by
    refine Below.trans ?_ (hb3.mono (by first | omega | (simp; done) | (simp; omega)))
    go_grown
  have lt0_3 : w.heap.size < w3.heap.size := by omega
  have c0_0_3 : w3.cell? ⟨w.heap.size, 0, none⟩ = some (.int .i64 m) := by rw [cc _ _ (by first | omega | (simp; done) | (simp; omega))]; first | assumption | (simp [go_sem, *]; done)
  have c0_1_3 : w3.cell? ⟨w.heap.size, 1, none⟩ = some (.int .i64 s) := by rw [cc _ _ (by first | omega | (simp; done) | (simp; omega))]; first | assumption | (simp [go_sem, *]; done)
  have lt1_3 : w.heap.size + 1 < w3.heap.size := by omega
  have c1_0_3 : w3.cell? ⟨w.heap.size + 1, 0, none⟩ = some (.int .i64 n) := by rw [cc _ _ (by first | omega | (simp; done) | (simp; omega))]; first | assumption | (simp [go_sem, *]; done)
  have c1_1_3 : w3.cell? ⟨w.heap.size + 1, 1, none⟩ = some (.int .i64 t) := by rw [cc _ _ (by first | omega | (simp; done) | (simp; omega))]; first | assumption | (simp [go_sem, *]; done)
  have lt2_3 : w.heap.size + 1 + 1 < w3.heap.size := by omega
  have c2_0_3 : w3.cell? ⟨w.heap.size + 1 + 1, 0, none⟩ = some (.int .i64 p) := by rw [cc _ _ (by first | omega | (simp; done) | (simp; omega))]; first | assumption | (simp [go_sem, *]; done)
  have c2_1_3 : w3.cell? ⟨w.heap.size + 1 + 1, 1, none⟩ = some (.int .i64 q) := by rw [cc _ _ (by first | omega | (simp; done) | (simp; omega))]; first | assumption | (simp [go_sem, *]; done)
  have lt3_3 : w2.heap.size < w3.heap.size := by omega
  have c3_0_3 : w3.cell? ⟨w2.heap.size, 0, none⟩ = some (.int .i64 x) := by rw [cc _ _ (by first | omega | (simp; done) | (simp; omega))]; first | assumption | (simp [go_sem, *]; done)
  have c3_1_3 : w3.cell? ⟨w2.heap.size, 1, none⟩ = some (.int .i64 y) := by rw [cc _ _ (by first | omega | (simp; done) | (simp; omega))]; first | assumption | (simp [go_sem, *]; done)
  clear cc ff hb3 lt0_2 c0_0_2 c0_1_2 lt1_2 c1_0_2 c1_1_2 lt2_2 c2_0_2 c2_1_2
  go_wp2_with fail
  refine (HK.out _).mono ?_; rintro e w4 ⟨rfl, hb4⟩
  obtain ⟨cc, ff⟩ := bcell hb4
  have sz4 : w3.heap.size + 1 ≤ w4.heap.size := by have := hb4.size; first | exact this | (simp at this; omega)
  have bw4 : Below w.heap.size w w4 := by
    refine Below.trans ?_ (hb4.mono (by first | omega | (simp; done) | (simp; omega)))
    go_grown
  have lt0_4 : w.heap.size < w4.heap.size := by omega
  have c0_0_4 : w4.cell? ⟨w.heap.size, 0, none⟩ = some (.int .i64 m) := by rw [cc _ _ (by first | omega | (simp; done) | (simp; omega))]; first | assumption | (simp [go_sem, *]; done)
  have c0_1_4 : w4.cell? ⟨w.heap.size, 1, none⟩ = some (.int .i64 s) := by rw [cc _ _ (by first | omega | (simp; done) | (simp; omega))]; first | assumption | (simp [go_sem, *]; done)
  have lt1_4 : w.heap.size + 1 < w4.heap.size := by omega
  have c1_0_4 : w4.cell? ⟨w.heap.size + 1, 0, none⟩ = some (.int .i64 n) := by rw [cc _ _ (by first | omega | (simp; done) | (simp; omega))]; first | assumption | (simp [go_sem, *]; done)
  have c1_1_4 : w4.cell? ⟨w.heap.size + 1, 1, none⟩ = some (.int .i64 t) := by rw [cc _ _ (by first | omega | (simp; done) | (simp; omega))]; first | assumption | (simp [go_sem, *]; done)
  have lt2_4 : w.heap.size + 1 + 1 < w4.heap.size := by omega
  have c2_0_4 : w4.cell? ⟨w.heap.size + 1 + 1, 0, none⟩ = some (.int .i64 p) := by rw [cc _ _ (by first | omega | (simp; done) | (simp; omega))]; first | assumption | (simp [go_sem, *]; done)
  have c2_1_4 : w4.cell? ⟨w.heap.size + 1 + 1, 1, none⟩ = some (.int .i64 q) := by rw [cc _ _ (by first | omega | (simp; done) | (simp; omega))]; first | assumption | (simp [go_sem, *]; done)
  have lt3_4 : w2.heap.size < w4.heap.size := by omega
  have c3_0_4 : w4.cell? ⟨w2.heap.size, 0, none⟩ = some (.int .i64 x) := by rw [cc _ _ (by first | omega | (simp; done) | (simp; omega))]; first | assumption | (simp [go_sem, *]; done)
  have c3_1_4 : w4.cell? ⟨w2.heap.size, 1, none⟩ = some (.int .i64 y) := by rw [cc _ _ (by first | omega | (simp; done) | (simp; omega))]; first | assumption | (simp [go_sem, *]; done)
  have lt4_4 : w3.heap.size < w4.heap.size := by omega
  have c4_0_4 : w4.cell? ⟨w3.heap.size, 0, none⟩ = some (.int .i64 x) := by rw [cc _ _ (by first | omega | (simp; done) | (simp; omega))]; first | assumption | (simp [go_sem, *]; done)
  have c4_1_4 : w4.cell? ⟨w3.heap.size, 1, none⟩ = some (.int .i64 y) := by rw [cc _ _ (by first | omega | (simp; done) | (simp; omega))]; first | assumption | (simp [go_sem, *]; done)
  clear cc ff hb4 lt0_3 c0_0_3 c0_1_3 lt1_3 c1_0_3 c1_1_3 lt2_3 c2_0_3 c2_1_3 lt3_3 c3_0_3 c3_1_3
  go_wp2_with fail
  refine (HZ.out _).mono ?_; rintro e w5 ⟨rfl, hb5⟩
  obtain ⟨cc, ff⟩ := bcell hb5
  have sz5 : w4.heap.size ≤ w5.heap.size := by have := hb5.size; first | exact this | (simp at this; omega)
  have bw5 : Below w.heap.size w w5 := by
    refine Below.trans ?_ (hb5.mono (by first | omega | (simp; done) | (simp; omega)))
    go_grown
  have lt0_5 : w.heap.size < w5.heap.size := by omega
  have c0_0_5 : w5.cell? ⟨w.heap.size, 0, none⟩ = some (.int .i64 m) := by rw [cc _ _ (by first | omega | (simp; done) | (simp; omega))]; first | assumption | (simp [go_sem, *]; done)
  have c0_1_5 : w5.cell? ⟨w.heap.size, 1, none⟩ = some (.int .i64 s) := by rw [cc _ _ (by first | omega | (simp; done) | (simp; omega))]; first | assumption | (simp [go_sem, *]; done)
  have lt1_5 : w.heap.size + 1 < w5.heap.size := by omega
  have c1_0_5 : w5.cell? ⟨w.heap.size + 1, 0, none⟩ = some (.int .i64 n) := by rw [cc _ _ (by first | omega | (simp; done) | (simp; omega))]; first | assumption | (simp [go_sem, *]; done)
  have c1_1_5 : w5.cell? ⟨w.heap.size + 1, 1, none⟩ = some (.int .i64 t) := by rw [cc _ _ (by first | omega | (simp; done) | (simp; omega))]; first | assumption | (simp [go_sem, *]; done)
  have lt2_5 : w.heap.size + 1 + 1 < w5.heap.size := by omega
  have c2_0_5 : w5.cell? ⟨w.heap.size + 1 + 1, 0, none⟩ = some (.int .i64 p) := by rw [cc _ _ (by first | omega | (simp; done) | (simp; omega))]; first | assumption | (simp [go_sem, *]; done)
  have c2_1_5 : w5.cell? ⟨w.heap.size + 1 + 1, 1, none⟩ = some (.int .i64 q) := by rw [cc _ _ (by first | omega | (simp; done) | (simp; omega))]; first | assumption | (simp [go_sem, *]; done)
  have lt3_5 : w2.heap.size < w5.heap.size := by omega
  have c3_0_5 : w5.cell? ⟨w2.heap.size, 0, none⟩ = some (.int .i64 x) := by rw [cc _ _ (by first | omega | (simp; done) | (simp; omega))]; first | assumption | (simp [go_sem, *]; done)
  have c3_1_5 : w5.cell? ⟨w2.heap.size, 1, none⟩ = some (.int .i64 y) := by rw [cc _ _ (by first | omega | (simp; done) | (simp; omega))]; first | assumption | (simp [go_sem, *]; done)
  have lt4_5 : w3.heap.size < w5.heap.size := by omega
  have c4_0_5 : w5.cell? ⟨w3.heap.size, 0, none⟩ = some (.int .i64 x) := by rw [cc _ _ (by first | omega | (simp; done) | (simp; omega))]; first | assumption | (simp [go_sem, *]; done)
  have c4_1_5 : w5.cell? ⟨w3.heap.size, 1, none⟩ = some (.int .i64 y) := by rw [cc _ _ (by first | omega | (simp; done) | (simp; omega))]; first | assumption | (simp [go_sem, *]; done)
  clear cc ff hb5 lt0_4 c0_0_4 c0_1_4 lt1_4 c1_0_4 c1_1_4 lt2_4 c2_0_4 c2_1_4 lt3_4 c3_0_4 c3_1_4 lt4_4 c4_0_4 c4_1_4
  go_wp2_with fail
  refine (HA.out _).mono ?_; rintro e w6 ⟨rfl, hb6⟩
  obtain ⟨cc, ff⟩ := bcell hb6
  have sz6 : w5.heap.size + 1 ≤ w6.heap.size := by have := hb6.size; first | exact this | (simp at this; omega)
  have bw6 : Below w.heap.size w w6 := by
    refine Below.trans ?_ (hb6.mono (by first | omega | (simp; done) | (simp; omega)))
    go_grown
  have lt0_6 : w.heap.size < w6.heap.size := by omega
  have c0_0_6 : w6.cell? ⟨w.heap.size, 0, none⟩ = some (.int .i64 m) := by rw [cc _ _ (by first | omega | (simp; done) | (simp; omega))]; first | assumption | (simp [go_sem, *]; done)
  have c0_1_6 : w6.cell? ⟨w.heap.size, 1, none⟩ = some (.int .i64 s) := by rw [cc _ _ (by first | omega | (simp; done) | (simp; omega))]; first | assumption | (simp [go_sem, *]; done)
  have lt1_6 : w.heap.size + 1 < w6.heap.size := by omega
  have c1_0_6 : w6.cell? ⟨w.heap.size + 1, 0, none⟩ = some (.int .i64 n) := by rw [cc _ _ (by first | omega | (simp; done) | (simp; omega))]; first | assumption | (simp [go_sem, *]; done)
  have c1_1_6 : w6.cell? ⟨w.heap.size + 1, 1, none⟩ = some (.int .i64 t) := by rw [cc _ _ (by first | omega | (simp; done) | (simp; omega))]; first | assumption | (simp [go_sem, *]; done)
  have lt2_6 : w.heap.size + 1 + 1 < w6.heap.size := by omega
  have c2_0_6 : w6.cell? ⟨w.heap.size + 1 + 1, 0, none⟩ = some (.int .i64 p) := by rw [cc _ _ (by first | omega | (simp; done) | (simp; omega))]; first | assumption | (simp [go_sem, *]; done)
  have c2_1_6 : w6.cell? ⟨w.heap.size + 1 + 1, 1, none⟩ = some (.int .i64 q) := by rw [cc _ _ (by first | omega | (simp; done) | (simp; omega))]; first | assumption | (simp [go_sem, *]; done)
  have lt3_6 : w2.heap.size < w6.heap.size := by omega
  have c3_0_6 : w6.cell? ⟨w2.heap.size, 0, none⟩ = some (.int .i64 x) := by rw [cc _ _ (by first | omega | (simp; done) | (simp; omega))]; first | assumption | (simp [go_sem, *]; done)
  have c3_1_6 : w6.cell? ⟨w2.heap.size, 1, none⟩ = some (.int .i64 y) := by rw [cc _ _ (by first | omega | (simp; done) | (simp; omega))]; first | assumption | (simp [go_sem, *]; done)
  have lt4_6 : w3.heap.size < w6.heap.size := by omega
  have c4_0_6 : w6.cell? ⟨w3.heap.size, 0, none⟩ = some (.int .i64 x) := by rw [cc _ _ (by first | omega | (simp; done) | (simp; omega))]; first | assumption | (simp [go_sem, *]; done)
  have c4_1_6 : w6.cell? ⟨w3.heap.size, 1, none⟩ = some (.int .i64 y) := by rw [cc _ _ (by first | omega | (simp; done) | (simp; omega))]; first | assumption | (simp [go_sem, *]; done)
  have lt5_6 : w5.heap.size < w6.heap.size := by omega
  have c5_0_6 : w6.cell? ⟨w5.heap.size, 0, none⟩ = some (.int .i64 m) := by rw [cc _ _ (by first | omega | (simp; done) | (simp; omega))]; first | assumption | (simp [go_sem, *]; done)
  have c5_1_6 : w6.cell? ⟨w5.heap.size, 1, none⟩ = some (.int .i64 s) := by rw [cc _ _ (by first | omega | (simp; done) | (simp; omega))]; first | assumption | (simp [go_sem, *]; done)
  clear cc ff hb6 lt0_5 c0_0_5 c0_1_5 lt1_5 c1_0_5 c1_1_5 lt2_5 c2_0_5 c2_1_5 lt3_5 c3_0_5 c3_1_5 lt4_5 c4_0_5 c4_1_5
  go_wp2_with fail
  refine (HN.out _).mono ?_; rintro e w7 ⟨rfl, hb7⟩
  obtain ⟨cc, ff⟩ := bcell hb7
  have sz7 : w6.heap.size ≤ w7.heap.size := by have := hb7.size; first | exact this | (simp at this; omega)
  have bw7 : Below w.heap.size w w7 := by
    refine Below.trans ?_ (hb7.mono (by first | omega | (simp; done) | (simp; omega)))
    go_grown
  have lt0_7 : w.heap.size < w7.heap.size := by omega
  have c0_0_7 : w7.cell? ⟨w.heap.size, 0, none⟩ = some (.int .i64 m) := by rw [cc _ _ (by first | omega | (simp; done) | (simp; omega))]; first | assumption | (simp [go_sem, *]; done)
  have c0_1_7 : w7.cell? ⟨w.heap.size, 1, none⟩ = some (.int .i64 s) := by rw [cc _ _ (by first | omega | (simp; done) | (simp; omega))]; first | assumption | (simp [go_sem, *]; done)
  have lt1_7 : w.heap.size + 1 < w7.heap.size := by omega
  have c1_0_7 : w7.cell? ⟨w.heap.size + 1, 0, none⟩ = some (.int .i64 n) := by rw [cc _ _ (by first | omega | (simp; done) | (simp; omega))]; first | assumption | (simp [go_sem, *]; done)
  have c1_1_7 : w7.cell? ⟨w.heap.size + 1, 1, none⟩ = some (.int .i64 t) := by rw [cc _ _ (by first | omega | (simp; done) | (simp; omega))]; first | assumption | (simp [go_sem, *]; done)
  have lt2_7 : w.heap.size + 1 + 1 < w7.heap.size := by omega
  have c2_0_7 : w7.cell? ⟨w.heap.size + 1 + 1, 0, none⟩ = some (.int .i64 p) := by rw [cc _ _ (by first | omega | (simp; done) | (simp; omega))]; first | assumption | (simp [go_sem, *]; done)
  have c2_1_7 : w7.cell? ⟨w.heap.size + 1 + 1, 1, none⟩ = some (.int .i64 q) := by rw [cc _ _ (by first | omega | (simp; done) | (simp; omega))]; first | assumption | (simp [go_sem, *]; done)
  have lt3_7 : w2.heap.size < w7.heap.size := by omega
  have c3_0_7 : w7.cell? ⟨w2.heap.size, 0, none⟩ = some (.int .i64 x) := by rw [cc _ _ (by first | omega | (simp; done) | (simp; omega))]; first | assumption | (simp [go_sem, *]; done)
  have c3_1_7 : w7.cell? ⟨w2.heap.size, 1, none⟩ = some (.int .i64 y) := by rw [cc _ _ (by first | omega | (simp; done) | (simp; omega))]; first | assumption | (simp [go_sem, *]; done)
  have lt4_7 : w3.heap.size < w7.heap.size := by omega
  have c4_0_7 : w7.cell? ⟨w3.heap.size, 0, none⟩ = some (.int .i64 x) := by rw [cc _ _ (by first | omega | (simp; done) | (simp; omega))]; first | assumption | (simp [go_sem, *]; done)
  have c4_1_7 : w7.cell? ⟨w3.heap.size, 1, none⟩ = some (.int .i64 y) := by rw [cc _ _ (by first | omega | (simp; done) | (simp; omega))]; first | assumption | (simp [go_sem, *]; done)
  have lt5_7 : w5.heap.size < w7.heap.size := by omega
  have c5_0_7 : w7.cell? ⟨w5.heap.size, 0, none⟩ = some (.int .i64 m) := by rw [cc _ _ (by first | omega | (simp; done) | (simp; omega))]; first | assumption | (simp [go_sem, *]; done)
  have c5_1_7 : w7.cell? ⟨w5.heap.size, 1, none⟩ = some (.int .i64 s) := by rw [cc _ _ (by first | omega | (simp; done) | (simp; omega))]; first | assumption | (simp [go_sem, *]; done)
  clear cc ff hb7 lt0_6 c0_0_6 c0_1_6 lt1_6 c1_0_6 c1_1_6 lt2_6 c2_0_6 c2_1_6 lt3_6 c3_0_6 c3_1_6 lt4_6 c4_0_6 c4_1_6 lt5_6 c5_0_6 c5_1_6
  go_wp2_with fail
  refine (HU.out _).mono ?_; rintro e w8 ⟨rfl, hb8⟩
  obtain ⟨cc, ff⟩ := bcell hb8
  have sz8 : w7.heap.size ≤ w8.heap.size := by have := hb8.size; first | exact this | (simp at this; omega)
  have bw8 : Below w.heap.size w w8 := by
    refine Below.trans ?_ (hb8.mono (by first | omega | (simp; done) | (simp; omega)))
    go_grown
  have lt0_8 : w.heap.size < w8.heap.size := by omega
  have c0_0_8 : w8.cell? ⟨w.heap.size, 0, none⟩ = some (.int .i64 m) := by rw [cc _ _ (by first | omega | (simp; done) | (simp; omega))]; first | assumption | (simp [go_sem, *]; done)
  have c0_1_8 : w8.cell? ⟨w.heap.size, 1, none⟩ = some (.int .i64 s) := by rw [cc _ _ (by first | omega | (simp; done) | (simp; omega))]; first | assumption | (simp [go_sem, *]; done)
  have lt1_8 : w.heap.size + 1 < w8.heap.size := by omega
  have c1_0_8 : w8.cell? ⟨w.heap.size + 1, 0, none⟩ = some (.int .i64 n) := by rw [cc _ _ (by first | omega | (simp; done) | (simp; omega))]; first | assumption | (simp [go_sem, *]; done)
  have c1_1_8 : w8.cell? ⟨w.heap.size + 1, 1, none⟩ = some (.int .i64 t) := by rw [cc _ _ (by first | omega | (simp; done) | (simp; omega))]; first | assumption | (simp [go_sem, *]; done)
  have lt2_8 : w.heap.size + 1 + 1 < w8.heap.size := by omega
  have c2_0_8 : w8.cell? ⟨w.heap.size + 1 + 1, 0, none⟩ = some (.int .i64 p) := by rw [cc _ _ (by first | omega | (simp; done) | (simp; omega))]; first | assumption | (simp [go_sem, *]; done)
  have c2_1_8 : w8.cell? ⟨w.heap.size + 1 + 1, 1, none⟩ = some (.int .i64 q) := by rw [cc _ _ (by first | omega | (simp; done) | (simp; omega))]; first | assumption | (simp [go_sem, *]; done)
  have lt3_8 : w2.heap.size < w8.heap.size := by omega
  have c3_0_8 : w8.cell? ⟨w2.heap.size, 0, none⟩ = some (.int .i64 x) := by rw [cc _ _ (by first | omega | (simp; done) | (simp; omega))]; first | assumption | (simp [go_sem, *]; done)
  have c3_1_8 : w8.cell? ⟨w2.heap.size, 1, none⟩ = some (.int .i64 y) := by rw [cc _ _ (by first | omega | (simp; done) | (simp; omega))]; first | assumption | (simp [go_sem, *]; done)
  have lt4_8 : w3.heap.size < w8.heap.size := by omega
  have c4_0_8 : w8.cell? ⟨w3.heap.size, 0, none⟩ = some (.int .i64 x) := by rw [cc _ _ (by first | omega | (simp; done) | (simp; omega))]; first | assumption | (simp [go_sem, *]; done)
  have c4_1_8 : w8.cell? ⟨w3.heap.size, 1, none⟩ = some (.int .i64 y) := by rw [cc _ _ (by first | omega | (simp; done) | (simp; omega))]; first | assumption | (simp [go_sem, *]; done)
  have lt5_8 : w5.heap.size < w8.heap.size := by omega
  have c5_0_8 : w8.cell? ⟨w5.heap.size, 0, none⟩ = some (.int .i64 m) := by rw [cc _ _ (by first | omega | (simp; done) | (simp; omega))]; first | assumption | (simp [go_sem, *]; done)
  have c5_1_8 : w8.cell? ⟨w5.heap.size, 1, none⟩ = some (.int .i64 s) := by rw [cc _ _ (by first | omega | (simp; done) | (simp; omega))]; first | assumption | (simp [go_sem, *]; done)
  clear cc ff hb8 lt0_7 c0_0_7 c0_1_7 lt1_7 c1_0_7 c1_1_7 lt2_7 c2_0_7 c2_1_7 lt3_7 c3_0_7 c3_1_7 lt4_7 c4_0_7 c4_1_7 lt5_7 c5_0_7 c5_1_7
  go_wp2_with fail
  refine (HM.out _).mono ?_; rintro e w9 ⟨rfl, hb9⟩
  obtain ⟨cc, ff⟩ := bcell hb9
  have sz9 : w8.heap.size + 1 ≤ w9.heap.size := by have := hb9.size; first | exact this | (simp at this; omega)
  have bw9 : Below w.heap.size w w9 := by
    refine Below.trans ?_ (hb9.mono (by first | omega | (simp; done) | (simp; omega)))
    go_grown
  have lt0_9 : w.heap.size < w9.heap.size := by omega
  have c0_0_9 : w9.cell? ⟨w.heap.size, 0, none⟩ = some (.int .i64 m) := by rw [cc _ _ (by first | omega | (simp; done) | (simp; omega))]; first | assumption | (simp [go_sem, *]; done)
  have c0_1_9 : w9.cell? ⟨w.heap.size, 1, none⟩ = some (.int .i64 s) := by rw [cc _ _ (by first | omega | (simp; done) | (simp; omega))]; first | assumption | (simp [go_sem, *]; done)
  have lt1_9 : w.heap.size + 1 < w9.heap.size := by omega
  have c1_0_9 : w9.cell? ⟨w.heap.size + 1, 0, none⟩ = some (.int .i64 n) := by rw [cc _ _ (by first | omega | (simp; done) | (simp; omega))]; first | assumption | (simp [go_sem, *]; done)
  have c1_1_9 : w9.cell? ⟨w.heap.size + 1, 1, none⟩ = some (.int .i64 t) := by rw [cc _ _ (by first | omega | (simp; done) | (simp; omega))]; first | assumption | (simp [go_sem, *]; done)
  have lt2_9 : w.heap.size + 1 + 1 < w9.heap.size := by omega
  have c2_0_9 : w9.cell? ⟨w.heap.size + 1 + 1, 0, none⟩ = some (.int .i64 p) := by rw [cc _ _ (by first | omega | (simp; done) | (simp; omega))]; first | assumption | (simp [go_sem, *]; done)
  have c2_1_9 : w9.cell? ⟨w.heap.size + 1 + 1, 1, none⟩ = some (.int .i64 q) := by rw [cc _ _ (by first | omega | (simp; done) | (simp; omega))]; first | assumption | (simp [go_sem, *]; done)
  have lt3_9 : w2.heap.size < w9.heap.size := by omega
  have c3_0_9 : w9.cell? ⟨w2.heap.size, 0, none⟩ = some (.int .i64 x) := by rw [cc _ _ (by first | omega | (simp; done) | (simp; omega))]; first | assumption | (simp [go_sem, *]; done)
  have c3_1_9 : w9.cell? ⟨w2.heap.size, 1, none⟩ = some (.int .i64 y) := by rw [cc _ _ (by first | omega | (simp; done) | (simp; omega))]; first | assumption | (simp [go_sem, *]; done)
  have lt4_9 : w3.heap.size < w9.heap.size := by omega
  have c4_0_9 : w9.cell? ⟨w3.heap.size, 0, none⟩ = some (.int .i64 x) := by rw [cc _ _ (by first | omega | (simp; done) | (simp; omega))]; first | assumption | (simp [go_sem, *]; done)
  have c4_1_9 : w9.cell? ⟨w3.heap.size, 1, none⟩ = some (.int .i64 y) := by rw [cc _ _ (by first | omega | (simp; done) | (simp; omega))]; first | assumption | (simp [go_sem, *]; done)
  have lt5_9 : w5.heap.size < w9.heap.size := by omega
  have c5_0_9 : w9.cell? ⟨w5.heap.size, 0, none⟩ = some (.int .i64 m) := by rw [cc _ _ (by first | omega | (simp; done) | (simp; omega))]; first | assumption | (simp [go_sem, *]; done)
  have c5_1_9 : w9.cell? ⟨w5.heap.size, 1, none⟩ = some (.int .i64 s) := by rw [cc _ _ (by first | omega | (simp; done) | (simp; omega))]; first | assumption | (simp [go_sem, *]; done)
  have lt6_9 : w8.heap.size < w9.heap.size := by omega
  have c6_0_9 : w9.cell? ⟨w8.heap.size, 0, none⟩ = some (.int .i64 u1) := by rw [cc _ _ (by first | omega | (simp; done) | (simp; omega))]; first | assumption | (simp [go_sem, *]; done)
  have c6_1_9 : w9.cell? ⟨w8.heap.size, 1, none⟩ = some (.int .i64 u2) := by rw [cc _ _ (by first | omega | (simp; done) | (simp; omega))]; first | assumption | (simp [go_sem, *]; done)
  clear cc ff hb9 lt0_8 c0_0_8 c0_1_8 lt1_8 c1_0_8 c1_1_8 lt2_8 c2_0_8 c2_1_8 lt3_8 c3_0_8 c3_1_8 lt4_8 c4_0_8 c4_1_8 lt5_8 c5_0_8 c5_1_8
  go_wp2_with fail
  go_ret
  refine ⟨rfl, ?_⟩
  go_grown
set_option maxRecDepth 100000 in
set_option maxHeartbeats 2000000 in
theorem sums_hbad_ms (m s n t p q x y e0 u1 u2 n1 h i m1 j : Int) (w : World) (he : Env w)
    (HS : Hid (∀ w, Calls Tryd.prog 11 #[.agg #[.int .i64 m, .int .i64 s], .agg #[.int .i64 n, .int .i64 t]] w fun e w' => e = .returned (.tuple #[.agg #[.int .i64 x, .int .i64 y], .int .i64 0]) ∧ Below w.heap.size w w'))
    (HT : Hid (∀ w, Calls Tryd.prog 11 #[.agg #[.int .i64 n, .int .i64 t], .agg #[.int .i64 m, .int .i64 s]] w fun e w' => e = .returned (.tuple #[.agg #[.int .i64 x, .int .i64 y], .int .i64 0]) ∧ Below w.heap.size w w'))
    (HK : Hid (∀ w, Calls Tryd.prog 15 #[.agg #[.int .i64 x, .int .i64 y]] w fun e w' => e = .returned (.int .i64 0) ∧ Below w.heap.size w w'))
    (HZ : Hid (∀ w, Calls Tryd.prog 11 #[.agg #[.int .i64 m, .int .i64 s], .agg #[.int .i64 0, .int .i64 0]] w fun e w' => e = .returned (.tuple #[.agg #[.int .i64 m, .int .i64 s], .int .i64 0]) ∧ Below w.heap.size w w'))
    (HA : Hid (∀ w, Calls Tryd.prog 15 #[.agg #[.int .i64 m, .int .i64 s]] w fun e w' => e = .returned (.int .i64 0) ∧ Below w.heap.size w w'))
    (HN : Hid (∀ w, Calls Tryd.prog 13 #[.agg #[.int .i64 m, .int .i64 s], .agg #[.int .i64 p, .int .i64 q]] w fun e w' => e = .returned (.tuple #[.int .i64 n1, .int .i64 140]) ∧ Below w.heap.size w w'))
    (HU : Hid (∀ w, Calls Tryd.prog 11 #[.agg #[.int .i64 p, .int .i64 q], .agg #[.int .i64 n, .int .i64 t]] w fun e w' => e = .returned (.tuple #[.agg #[.int .i64 u1, .int .i64 u2], .int .i64 i]) ∧ Below w.heap.size w w'))
    (HM : Hid (∀ w, Calls Tryd.prog 13 #[.agg #[.int .i64 x, .int .i64 y], .agg #[.int .i64 u1, .int .i64 u2]] w fun e w' => e = .returned (.tuple #[.int .i64 m1, .int .i64 j]) ∧ Below w.heap.size w w'))
    (hy1 : (m == -9223372036854775808) = false) (hy2 : (n == -9223372036854775808) = false) (hy3 : (x == -9223372036854775808) = true) :
    Calls Tryd.prog 8 #[.agg #[.int .i64 m, .int .i64 s], .agg #[.int .i64 n, .int .i64 t], .agg #[.int .i64 p, .int .i64 q]] w fun e w' => e = .returned (.bool true) ∧ Below w.heap.size w w' := by
  have HL := Lib.hid (fun w he => alive_true w he)
  go_enter Tryd.func8, Tryd.ntmps8
  go_wp2_with fail
  refine (HL.out _ (he.stays (by go_grown))).mono ?_; rintro e w1 ⟨rfl, hb1⟩
  obtain ⟨cc, ff⟩ := bcell hb1
  have sz1 : w.heap.size + 1 + 1 + 1 ≤ w1.heap.size := by have := hb1.size; first | exact this | (simp at this; omega)
  have bw1 : Below w.heap.size w w1 := by
    refine Below.trans ?_ (hb1.mono (by first | omega | (simp; done) | (simp; omega)))
    go_grown
  have lt0_1 : w.heap.size < w1.heap.size := by omega
  have c0_0_1 : w1.cell? ⟨w.heap.size, 0, none⟩ = some (.int .i64 m) := by rw [cc _ _ (by first | omega | (simp; done) | (simp; omega))]; first | assumption | (simp [go_sem, *]; done)
  have c0_1_1 : w1.cell? ⟨w.heap.size, 1, none⟩ = some (.int .i64 s) := by rw [cc _ _ (by first | omega | (simp; done) | (simp; omega))]; first | assumption | (simp [go_sem, *]; done)
  have lt1_1 : w.heap.size + 1 < w1.heap.size := by omega
  have c1_0_1 : w1.cell? ⟨w.heap.size + 1, 0, none⟩ = some (.int .i64 n) := by rw [cc _ _ (by first | omega | (simp; done) | (simp; omega))]; first | assumption | (simp [go_sem, *]; done)
  have c1_1_1 : w1.cell? ⟨w.heap.size + 1, 1, none⟩ = some (.int .i64 t) := by rw [cc _ _ (by first | omega | (simp; done) | (simp; omega))]; first | assumption | (simp [go_sem, *]; done)
  have lt2_1 : w.heap.size + 1 + 1 < w1.heap.size := by omega
  have c2_0_1 : w1.cell? ⟨w.heap.size + 1 + 1, 0, none⟩ = some (.int .i64 p) := by rw [cc _ _ (by first | omega | (simp; done) | (simp; omega))]; first | assumption | (simp [go_sem, *]; done)
  have c2_1_1 : w1.cell? ⟨w.heap.size + 1 + 1, 1, none⟩ = some (.int .i64 q) := by rw [cc _ _ (by first | omega | (simp; done) | (simp; omega))]; first | assumption | (simp [go_sem, *]; done)
  clear cc ff hb1
  go_wp2_with fail
  refine (HS.out _).mono ?_; rintro e w2 ⟨rfl, hb2⟩
  obtain ⟨cc, ff⟩ := bcell hb2
  have sz2 : w1.heap.size ≤ w2.heap.size := by have := hb2.size; first | exact this | (simp at this; omega)
  have bw2 : Below w.heap.size w w2 := by
    refine Below.trans ?_ (hb2.mono (by first | omega | (simp; done) | (simp; omega)))
    go_grown
  have lt0_2 : w.heap.size < w2.heap.size := by omega
  have c0_0_2 : w2.cell? ⟨w.heap.size, 0, none⟩ = some (.int .i64 m) := by rw [cc _ _ (by first | omega | (simp; done) | (simp; omega))]; first | assumption | (simp [go_sem, *]; done)
  have c0_1_2 : w2.cell? ⟨w.heap.size, 1, none⟩ = some (.int .i64 s) := by rw [cc _ _ (by first | omega | (simp; done) | (simp; omega))]; first | assumption | (simp [go_sem, *]; done)
  have lt1_2 : w.heap.size + 1 < w2.heap.size := by omega
  have c1_0_2 : w2.cell? ⟨w.heap.size + 1, 0, none⟩ = some (.int .i64 n) := by rw [cc _ _ (by first | omega | (simp; done) | (simp; omega))]; first | assumption | (simp [go_sem, *]; done)
  have c1_1_2 : w2.cell? ⟨w.heap.size + 1, 1, none⟩ = some (.int .i64 t) := by rw [cc _ _ (by first | omega | (simp; done) | (simp; omega))]; first | assumption | (simp [go_sem, *]; done)
  have lt2_2 : w.heap.size + 1 + 1 < w2.heap.size := by omega
  have c2_0_2 : w2.cell? ⟨w.heap.size + 1 + 1, 0, none⟩ = some (.int .i64 p) := by rw [cc _ _ (by first | omega | (simp; done) | (simp; omega))]; first | assumption | (simp [go_sem, *]; done)
  have c2_1_2 : w2.cell? ⟨w.heap.size + 1 + 1, 1, none⟩ = some (.int .i64 q) := by rw [cc _ _ (by first | omega | (simp; done) | (simp; omega))]; first | assumption | (simp [go_sem, *]; done)
  clear cc ff hb2 lt0_1 c0_0_1 c0_1_1 lt1_1 c1_0_1 c1_1_1 lt2_1 c2_0_1 c2_1_1
  go_wp2_with fail
  refine (HT.out _).mono ?_; rintro e w3 ⟨rfl, hb3⟩
  obtain ⟨cc, ff⟩ := bcell hb3
  have sz3 : w2.heap.size + 1 ≤ w3.heap.size := by have := hb3.size; first | exact this | (simp at this; omega)
  have bw3 : Below w.heap.size w w3 := by
    refine Below.trans ?_ (hb3.mono (by first | omega | (simp; done) | (simp; omega)))
    go_grown
  have lt0_3 : w.heap.size < w3.heap.size := by omega
  have c0_0_3 : w3.cell? ⟨w.heap.size, 0, none⟩ = some (.int .i64 m) := by rw [cc _ _ (by first | omega | (simp; done) | (simp; omega))]; first | assumption | (simp [go_sem, *]; done)
  have c0_1_3 : w3.cell? ⟨w.heap.size, 1, none⟩ = some (.int .i64 s) := by rw [cc _ _ (by first | omega | (simp; done) | (simp; omega))]; first | assumption | (simp [go_sem, *]; done)
  have lt1_3 : w.heap.size + 1 < w3.heap.size := by omega
  have c1_0_3 : w3.cell? ⟨w.heap.size + 1, 0, none⟩ = some (.int .i64 n) := by rw [cc _ _ (by first | omega | (simp; done) | (simp; omega))]; first | assumption | (simp [go_sem, *]; done)
  have c1_1_3 : w3.cell? ⟨w.heap.size + 1, 1, none⟩ = some (.int .i64 t) := by rw [cc _ _ (by first | omega | (simp; done) | (simp; omega))]; first | assumption | (simp [go_sem, *]; done)
  have lt2_3 : w.heap.size + 1 + 1 < w3.heap.size := by omega
  have c2_0_3 : w3.cell? ⟨w.heap.size + 1 + 1, 0, none⟩ = some (.int .i64 p) := by rw [cc _ _ (by first | omega | (simp; done) | (simp; omega))]; first | assumption | (simp [go_sem, *]; done)
  have c2_1_3 : w3.cell? ⟨w.heap.size + 1 + 1, 1, none⟩ = some (.int .i64 q) := by rw [cc _ _ (by first | omega | (simp; done) | (simp; omega))]; first | assumption | (simp [go_sem, *]; done)
  have lt3_3 : w2.heap.size < w3.heap.size := by omega
  have c3_0_3 : w3.cell? ⟨w2.heap.size, 0, none⟩ = some (.int .i64 x) := by rw [cc _ _ (by first | omega | (simp; done) | (simp; omega))]; first | assumption | (simp [go_sem, *]; done)
  have c3_1_3 : w3.cell? ⟨w2.heap.size, 1, none⟩ = some (.int .i64 y) := by rw [cc _ _ (by first | omega | (simp; done) | (simp; omega))]; first | assumption | (simp [go_sem, *]; done)
  clear cc ff hb3 lt0_2 c0_0_2 c0_1_2 lt1_2 c1_0_2 c1_1_2 lt2_2 c2_0_2 c2_1_2
  go_wp2_with fail
  refine (HK.out _).mono ?_; rintro e w4 ⟨rfl, hb4⟩
  obtain ⟨cc, ff⟩ := bcell hb4
  have sz4 : w3.heap.size + 1 ≤ w4.heap.size := by have := hb4.size; first | exact this | (simp at this; omega)
  have bw4 : Below w.heap.size w w4 := by
    refine Below.trans ?_ (hb4.mono (by first | omega | (simp; done) | (simp; omega)))
    go_grown
  have lt0_4 : w.heap.size < w4.heap.size := by omega
  have c0_0_4 : w4.cell? ⟨w.heap.size, 0, none⟩ = some (.int .i64 m) := by rw [cc _ _ (by first | omega | (simp; done) | (simp; omega))]; first | assumption | (simp [go_sem, *]; done)
  have c0_1_4 : w4.cell? ⟨w.heap.size, 1, none⟩ = some (.int .i64 s) := by rw [cc _ _ (by first | omega | (simp; done) | (simp; omega))]; first | assumption | (simp [go_sem, *]; done)
  have lt1_4 : w.heap.size + 1 < w4.heap.size := by omega
  have c1_0_4 : w4.cell? ⟨w.heap.size + 1, 0, none⟩ = some (.int .i64 n) := by rw [cc _ _ (by first | omega | (simp; done) | (simp; omega))]; first | assumption | (simp [go_sem, *]; done)
  have c1_1_4 : w4.cell? ⟨w.heap.size + 1, 1, none⟩ = some (.int .i64 t) := by rw [cc _ _ (by first | omega | (simp; done) | (simp; omega))]; first | assumption | (simp [go_sem, *]; done)
  have lt2_4 : w.heap.size + 1 + 1 < w4.heap.size := by omega
  have c2_0_4 : w4.cell? ⟨w.heap.size + 1 + 1, 0, none⟩ = some (.int .i64 p) := by rw [cc _ _ (by first | omega | (simp; done) | (simp; omega))]; first | assumption | (simp [go_sem, *]; done)
  have c2_1_4 : w4.cell? ⟨w.heap.size + 1 + 1, 1, none⟩ = some (.int .i64 q) := by rw [cc _ _ (by first | omega | (simp; done) | (simp; omega))]; first | assumption | (simp [go_sem, *]; done)
  have lt3_4 : w2.heap.size < w4.heap.size := by omega
  have c3_0_4 : w4.cell? ⟨w2.heap.size, 0, none⟩ = some (.int .i64 x) := by rw [cc _ _ (by first | omega | (simp; done) | (simp; omega))]; first | assumption | (simp [go_sem, *]; done)
  have c3_1_4 : w4.cell? ⟨w2.heap.size, 1, none⟩ = some (.int .i64 y) := by rw [cc _ _ (by first | omega | (simp; done) | (simp; omega))]; first | assumption | (simp [go_sem, *]; done)
  have lt4_4 : w3.heap.size < w4.heap.size := by omega
  have c4_0_4 : w4.cell? ⟨w3.heap.size, 0, none⟩ = some (.int .i64 x) := by rw [cc _ _ (by first | omega | (simp; done) | (simp; omega))]; first | assumption | (simp [go_sem, *]; done)
  have c4_1_4 : w4.cell? ⟨w3.heap.size, 1, none⟩ = some (.int .i64 y) := by rw [cc _ _ (by first | omega | (simp; done) | (simp; omega))]; first | assumption | (simp [go_sem, *]; done)
  clear cc ff hb4 lt0_3 c0_0_3 c0_1_3 lt1_3 c1_0_3 c1_1_3 lt2_3 c2_0_3 c2_1_3 lt3_3 c3_0_3 c3_1_3
  go_wp2_with fail
  refine (HZ.out _).mono ?_; rintro e w5 ⟨rfl, hb5⟩
  obtain ⟨cc, ff⟩ := bcell hb5
  have sz5 : w4.heap.size ≤ w5.heap.size := by have := hb5.size; first | exact this | (simp at this; omega)
  have bw5 : Below w.heap.size w w5 := by
    refine Below.trans ?_ (hb5.mono (by first | omega | (simp; done) | (simp; omega)))
    go_grown
  have lt0_5 : w.heap.size < w5.heap.size := by omega
  have c0_0_5 : w5.cell? ⟨w.heap.size, 0, none⟩ = some (.int .i64 m) := by rw [cc _ _ (by first | omega | (simp; done) | (simp; omega))]; first | assumption | (simp [go_sem, *]; done)
  have c0_1_5 : w5.cell? ⟨w.heap.size, 1, none⟩ = some (.int .i64 s) := by rw [cc _ _ (by first | omega | (simp; done) | (simp; omega))]; first | assumption | (simp [go_sem, *]; done)
  have lt1_5 : w.heap.size + 1 < w5.heap.size := by omega
  have c1_0_5 : w5.cell? ⟨w.heap.size + 1, 0, none⟩ = some (.int .i64 n) := by rw [cc _ _ (by first | omega | (simp; done) | (simp; omega))]; first | assumption | (simp [go_sem, *]; done)
  have c1_1_5 : w5.cell? ⟨w.heap.size + 1, 1, none⟩ = some (.int .i64 t) := by rw [cc _ _ (by first | omega | (simp; done) | (simp; omega))]; first | assumption | (simp [go_sem, *]; done)
  have lt2_5 : w.heap.size + 1 + 1 < w5.heap.size := by omega
  have c2_0_5 : w5.cell? ⟨w.heap.size + 1 + 1, 0, none⟩ = some (.int .i64 p) := by rw [cc _ _ (by first | omega | (simp; done) | (simp; omega))]; first | assumption | (simp [go_sem, *]; done)
  have c2_1_5 : w5.cell? ⟨w.heap.size + 1 + 1, 1, none⟩ = some (.int .i64 q) := by rw [cc _ _ (by first | omega | (simp; done) | (simp; omega))]; first | assumption | (simp [go_sem, *]; done)
  have lt3_5 : w2.heap.size < w5.heap.size := by omega
  have c3_0_5 : w5.cell? ⟨w2.heap.size, 0, none⟩ = some (.int .i64 x) := by rw [cc _ _ (by first | omega | (simp; done) | (simp; omega))]; first | assumption | (simp [go_sem, *]; done)
  have c3_1_5 : w5.cell? ⟨w2.heap.size, 1, none⟩ = some (.int .i64 y) := by rw [cc _ _ (by first | omega | (simp; done) | (simp; omega))]; first | assumption | (simp [go_sem, *]; done)
  have lt4_5 : w3.heap.size < w5.heap.size := by omega
  have c4_0_5 : w5.cell? ⟨w3.heap.size, 0, none⟩ = some (.int .i64 x) := by rw [cc _ _ (by first | omega | (simp; done) | (simp; omega))]; first | assumption | (simp [go_sem, *]; done)
  have c4_1_5 : w5.cell? ⟨w3.heap.size, 1, none⟩ = some (.int .i64 y) := by rw [cc _ _ (by first | omega | (simp; done) | (simp; omega))]; first | assumption | (simp [go_sem, *]; done)
  clear cc ff hb5 lt0_4 c0_0_4 c0_1_4 lt1_4 c1_0_4 c1_1_4 lt2_4 c2_0_4 c2_1_4 lt3_4 c3_0_4 c3_1_4 lt4_4 c4_0_4 c4_1_4
  go_wp2_with fail
  refine (HA.out _).mono ?_; rintro e w6 ⟨rfl, hb6⟩
  obtain ⟨cc, ff⟩ := bcell hb6
  have sz6 : w5.heap.size + 1 ≤ w6.heap.size := by have := hb6.size; first | exact this | (simp at this; omega)
  have bw6 : Below w.heap.size w w6 := by
    refine Below.trans ?_ (hb6.mono (by first | omega | (simp; done) | (simp; omega)))
    go_grown
  have lt0_6 : w.heap.size < w6.heap.size := by omega
  have c0_0_6 : w6.cell? ⟨w.heap.size, 0, none⟩ = some (.int .i64 m) := by rw [cc _ _ (by first | omega | (simp; done) | (simp; omega))]; first | assumption | (simp [go_sem, *]; done)
  have c0_1_6 : w6.cell? ⟨w.heap.size, 1, none⟩ = some (.int .i64 s) := by rw [cc _ _ (by first | omega | (simp; done) | (simp; omega))]; first | assumption | (simp [go_sem, *]; done)
  have lt1_6 : w.heap.size + 1 < w6.heap.size := by omega
  have c1_0_6 : w6.cell? ⟨w.heap.size + 1, 0, none⟩ = some (.int .i64 n) := by rw [cc _ _ (by first | omega | (simp; done) | (simp; omega))]; first | assumption | (simp [go_sem, *]; done)
  have c1_1_6 : w6.cell? ⟨w.heap.size + 1, 1, none⟩ = some (.int .i64 t) := by rw [cc _ _ (by first | omega | (simp; done) | (simp; omega))]; first | assumption | (simp [go_sem, *]; done)
  have lt2_6 : w.heap.size + 1 + 1 < w6.heap.size := by omega
  have c2_0_6 : w6.cell? ⟨w.heap.size + 1 + 1, 0, none⟩ = some (.int .i64 p) := by rw [cc _ _ (by first | omega | (simp; done) | (simp; omega))]; first | assumption | (simp [go_sem, *]; done)
  have c2_1_6 : w6.cell? ⟨w.heap.size + 1 + 1, 1, none⟩ = some (.int .i64 q) := by rw [cc _ _ (by first | omega | (simp; done) | (simp; omega))]; first | assumption | (simp [go_sem, *]; done)
  have lt3_6 : w2.heap.size < w6.heap.size := by omega
  have c3_0_6 : w6.cell? ⟨w2.heap.size, 0, none⟩ = some (.int .i64 x) := by rw [cc _ _ (by first | omega | (simp; done) | (simp; omega))]; first | assumption | (simp [go_sem, *]; done)
  have c3_1_6 : w6.cell? ⟨w2.heap.size, 1, none⟩ = some (.int .i64 y) := by rw [cc _ _ (by first | omega | (simp; done) | (simp; omega))]; first | assumption | (simp [go_sem, *]; done)
  have lt4_6 : w3.heap.size < w6.heap.size := by omega
  have c4_0_6 : w6.cell? ⟨w3.heap.size, 0, none⟩ = some (.int .i64 x) := by rw [cc _ _ (by first | omega | (simp; done) | (simp; omega))]; first | assumption | (simp [go_sem, *]; done)
  have c4_1_6 : w6.cell? ⟨w3.heap.size, 1, none⟩ = some (.int .i64 y) := by rw [cc _ _ (by first | omega | (simp; done) | (simp; omega))]; first | assumption | (simp [go_sem, *]; done)
  have lt5_6 : w5.heap.size < w6.heap.size := by omega
  have c5_0_6 : w6.cell? ⟨w5.heap.size, 0, none⟩ = some (.int .i64 m) := by rw [cc _ _ (by first | omega | (simp; done) | (simp; omega))]; first | assumption | (simp [go_sem, *]; done)
  have c5_1_6 : w6.cell? ⟨w5.heap.size, 1, none⟩ = some (.int .i64 s) := by rw [cc _ _ (by first | omega | (simp; done) | (simp; omega))]; first | assumption | (simp [go_sem, *]; done)
  clear cc ff hb6 lt0_5 c0_0_5 c0_1_5 lt1_5 c1_0_5 c1_1_5 lt2_5 c2_0_5 c2_1_5 lt3_5 c3_0_5 c3_1_5 lt4_5 c4_0_5 c4_1_5
  go_wp2_with fail
  refine (HN.out _).mono ?_; rintro e w7 ⟨rfl, hb7⟩
  obtain ⟨cc, ff⟩ := bcell hb7
  have sz7 : w6.heap.size ≤ w7.heap.size := by have := hb7.size; first | exact this | (simp at this; omega)
  have bw7 : Below w.heap.size w w7 := by
    refine Below.trans ?_ (hb7.mono (by first | omega | (simp; done) | (simp; omega)))
    go_grown
  have lt0_7 : w.heap.size < w7.heap.size := by omega
  have c0_0_7 : w7.cell? ⟨w.heap.size, 0, none⟩ = some (.int .i64 m) := by rw [cc _ _ (by first | omega | (simp; done) | (simp; omega))]; first | assumption | (simp [go_sem, *]; done)
  have c0_1_7 : w7.cell? ⟨w.heap.size, 1, none⟩ = some (.int .i64 s) := by rw [cc _ _ (by first | omega | (simp; done) | (simp; omega))]; first | assumption | (simp [go_sem, *]; done)
  have lt1_7 : w.heap.size + 1 < w7.heap.size := by omega
  have c1_0_7 : w7.cell? ⟨w.heap.size + 1, 0, none⟩ = some (.int .i64 n) := by rw [cc _ _ (by first | omega | (simp; done) | (simp; omega))]; first | assumption | (simp [go_sem, *]; done)
  have c1_1_7 : w7.cell? ⟨w.heap.size + 1, 1, none⟩ = some (.int .i64 t) := by rw [cc _ _ (by first | omega | (simp; done) | (simp; omega))]; first | assumption | (simp [go_sem, *]; done)
  have lt2_7 : w.heap.size + 1 + 1 < w7.heap.size := by omega
  have c2_0_7 : w7.cell? ⟨w.heap.size + 1 + 1, 0, none⟩ = some (.int .i64 p) := by rw [cc _ _ (by first | omega | (simp; done) | (simp; omega))]; first | assumption | (simp [go_sem, *]; done)
  have c2_1_7 : w7.cell? ⟨w.heap.size + 1 + 1, 1, none⟩ = some (.int .i64 q) := by rw [cc _ _ (by first | omega | (simp; done) | (simp; omega))]; first | assumption | (simp [go_sem, *]; done)
  have lt3_7 : w2.heap.size < w7.heap.size := by omega
  have c3_0_7 : w7.cell? ⟨w2.heap.size, 0, none⟩ = some (.int .i64 x) := by rw [cc _ _ (by first | omega | (simp; done) | (simp; omega))]; first | assumption | (simp [go_sem, *]; done)
  have c3_1_7 : w7.cell? ⟨w2.heap.size, 1, none⟩ = some (.int .i64 y) := by rw [cc _ _ (by first | omega | (simp; done) | (simp; omega))]; first | assumption | (simp [go_sem, *]; done)
  have lt4_7 : w3.heap.size < w7.heap.size := by omega
  have c4_0_7 : w7.cell? ⟨w3.heap.size, 0, none⟩ = some (.int .i64 x) := by rw [cc _ _ (by first | omega | (simp; done) | (simp; omega))]; first | assumption | (simp [go_sem, *]; done)
  have c4_1_7 : w7.cell? ⟨w3.heap.size, 1, none⟩ = some (.int .i64 y) := by rw [cc _ _ (by first | omega | (simp; done) | (simp; omega))]; first | assumption | (simp [go_sem, *]; done)
  have lt5_7 : w5.heap.size < w7.heap.size := by omega
  have c5_0_7 : w7.cell? ⟨w5.heap.size, 0, none⟩ = some (.int .i64 m) := by rw [cc _ _ (by first | omega | (simp; done) | (simp; omega))]; first | assumption | (simp [go_sem, *]; done)
  have c5_1_7 : w7.cell? ⟨w5.heap.size, 1, none⟩ = some (.int .i64 s) := by rw [cc _ _ (by first | omega | (simp; done) | (simp; omega))]; first | assumption | (simp [go_sem, *]; done)
  clear cc ff hb7 lt0_6 c0_0_6 c0_1_6 lt1_6 c1_0_6 c1_1_6 lt2_6 c2_0_6 c2_1_6 lt3_6 c3_0_6 c3_1_6 lt4_6 c4_0_6 c4_1_6 lt5_6 c5_0_6 c5_1_6
  go_wp2_with fail
  refine (HU.out _).mono ?_; rintro e w8 ⟨rfl, hb8⟩
  obtain ⟨cc, ff⟩ := bcell hb8
  have sz8 : w7.heap.size ≤ w8.heap.size := by have := hb8.size; first | exact this | (simp at this; omega)
  have bw8 : Below w.heap.size w w8 := by
    refine Below.trans ?_ (hb8.mono (by first | omega | (simp; done) | (simp; omega)))
    go_grown
  have lt0_8 : w.heap.size < w8.heap.size := by omega
  have c0_0_8 : w8.cell? ⟨w.heap.size, 0, none⟩ = some (.int .i64 m) := by rw [cc _ _ (by first | omega | (simp; done) | (simp; omega))]; first | assumption | (simp [go_sem, *]; done)
  have c0_1_8 : w8.cell? ⟨w.heap.size, 1, none⟩ = some (.int .i64 s) := by rw [cc _ _ (by first | omega | (simp; done) | (simp; omega))]; first | assumption | (simp [go_sem, *]; done)
  have lt1_8 : w.heap.size + 1 < w8.heap.size := by omega
  have c1_0_8 : w8.cell? ⟨w.heap.size + 1, 0, none⟩ = some (.int .i64 n) := by rw [cc _ _ (by first | omega | (simp; done) | (simp; omega))]; first | assumption | (simp [go_sem, *]; done)
  have c1_1_8 : w8.cell? ⟨w.heap.size + 1, 1, none⟩ = some (.int .i64 t) := by rw [cc _ _ (by first | omega | (simp; done) | (simp; omega))]; first | assumption | (simp [go_sem, *]; done)
  have lt2_8 : w.heap.size + 1 + 1 < w8.heap.size := by omega
  have c2_0_8 : w8.cell? ⟨w.heap.size + 1 + 1, 0, none⟩ = some (.int .i64 p) := by rw [cc _ _ (by first | omega | (simp; done) | (simp; omega))]; first | assumption | (simp [go_sem, *]; done)
  have c2_1_8 : w8.cell? ⟨w.heap.size + 1 + 1, 1, none⟩ = some (.int .i64 q) := by rw [cc _ _ (by first | omega | (simp; done) | (simp; omega))]; first | assumption | (simp [go_sem, *]; done)
  have lt3_8 : w2.heap.size < w8.heap.size := by omega
  have c3_0_8 : w8.cell? ⟨w2.heap.size, 0, none⟩ = some (.int .i64 x) := by rw [cc _ _ (by first | omega | (simp; done) | (simp; omega))]; first | assumption | (simp [go_sem, *]; done)
  have c3_1_8 : w8.cell? ⟨w2.heap.size, 1, none⟩ = some (.int .i64 y) := by rw [cc _ _ (by first | omega | (simp; done) | (simp; omega))]; first | assumption | (simp [go_sem, *]; done)
  have lt4_8 : w3.heap.size < w8.heap.size := by omega
  have c4_0_8 : w8.cell? ⟨w3.heap.size, 0, none⟩ = some (.int .i64 x) := by rw [cc _ _ (by first | omega | (simp; done) | (simp; omega))]; first | assumption | (simp [go_sem, *]; done)
  have c4_1_8 : w8.cell? ⟨w3.heap.size, 1, none⟩ = some (.int .i64 y) := by rw [cc _ _ (by first | omega | (simp; done) | (simp; omega))]; first | assumption | (simp [go_sem, *]; done)
  have lt5_8 : w5.heap.size < w8.heap.size := by omega
  have c5_0_8 : w8.cell? ⟨w5.heap.size, 0, none⟩ = some (.int .i64 m) := by rw [cc _ _ (by first | omega | (simp; done) | (simp; omega))]; first | assumption | (simp [go_sem, *]; done)
  have c5_1_8 : w8.cell? ⟨w5.heap.size, 1, none⟩ = some (.int .i64 s) := by rw [cc _ _ (by first | omega | (simp; done) | (simp; omega))]; first | assumption | (simp [go_sem, *]; done)
  clear cc ff hb8 lt0_7 c0_0_7 c0_1_7 lt1_7 c1_0_7 c1_1_7 lt2_7 c2_0_7 c2_1_7 lt3_7 c3_0_7 c3_1_7 lt4_7 c4_0_7 c4_1_7 lt5_7 c5_0_7 c5_1_7
  go_wp2_with fail
  refine (HM.out _).mono ?_; rintro e w9 ⟨rfl, hb9⟩
  obtain ⟨cc, ff⟩ := bcell hb9
  have sz9 : w8.heap.size + 1 ≤ w9.heap.size := by have := hb9.size; first | exact this | (simp at this; omega)
  have bw9 : Below w.heap.size w w9 := by
    refine Below.trans ?_ (hb9.mono (by first | omega | (simp; done) | (simp; omega)))
    go_grown
  have lt0_9 : w.heap.size < w9.heap.size := by omega
  have c0_0_9 : w9.cell? ⟨w.heap.size, 0, none⟩ = some (.int .i64 m) := by rw [cc _ _ (by first | omega | (simp; done) | (simp; omega))]; first | assumption | (simp [go_sem, *]; done)
  have c0_1_9 : w9.cell? ⟨w.heap.size, 1, none⟩ = some (.int .i64 s) := by rw [cc _ _ (by first | omega | (simp; done) | (simp; omega))]; first | assumption | (simp [go_sem, *]; done)
  have lt1_9 : w.heap.size + 1 < w9.heap.size := by omega
  have c1_0_9 : w9.cell? ⟨w.heap.size + 1, 0, none⟩ = some (.int .i64 n) := by rw [cc _ _ (by first | omega | (simp; done) | (simp; omega))]; first | assumption | (simp [go_sem, *]; done)
  have c1_1_9 : w9.cell? ⟨w.heap.size + 1, 1, none⟩ = some (.int .i64 t) := by rw [cc _ _ (by first | omega | (simp; done) | (simp; omega))]; first | assumption | (simp [go_sem, *]; done)
  have lt2_9 : w.heap.size + 1 + 1 < w9.heap.size := by omega
  have c2_0_9 : w9.cell? ⟨w.heap.size + 1 + 1, 0, none⟩ = some (.int .i64 p) := by rw [cc _ _ (by first | omega | (simp; done) | (simp; omega))]; first | assumption | (simp [go_sem, *]; done)
  have c2_1_9 : w9.cell? ⟨w.heap.size + 1 + 1, 1, none⟩ = some (.int .i64 q) := by rw [cc _ _ (by first | omega | (simp; done) | (simp; omega))]; first | assumption | (simp [go_sem, *]; done)
  have lt3_9 : w2.heap.size < w9.heap.size := by omega
  have c3_0_9 : w9.cell? ⟨w2.heap.size, 0, none⟩ = some (.int .i64 x) := by rw [cc _ _ (by first | omega | (simp; done) | (simp; omega))]; first | assumption | (simp [go_sem, *]; done)
  have c3_1_9 : w9.cell? ⟨w2.heap.size, 1, none⟩ = some (.int .i64 y) := by rw [cc _ _ (by first | omega | (simp; done) | (simp; omega))]; first | assumption | (simp [go_sem, *]; done)
  have lt4_9 : w3.heap.size < w9.heap.size := by omega
  have c4_0_9 : w9.cell? ⟨w3.heap.size, 0, none⟩ = some (.int .i64 x) := by rw [cc _ _ (by first | omega | (simp; done) | (simp; omega))]; first | assumption | (simp [go_sem, *]; done)
  have c4_1_9 : w9.cell? ⟨w3.heap.size, 1, none⟩ = some (.int .i64 y) := by rw [cc _ _ (by first | omega | (simp; done) | (simp; omega))]; first | assumption | (simp [go_sem, *]; done)
  have lt5_9 : w5.heap.size < w9.heap.size := by omega
  have c5_0_9 : w9.cell? ⟨w5.heap.size, 0, none⟩ = some (.int .i64 m) := by rw [cc _ _ (by first | omega | (simp; done) | (simp; omega))]; first | assumption | (simp [go_sem, *]; done)
  have c5_1_9 : w9.cell? ⟨w5.heap.size, 1, none⟩ = some (.int .i64 s) := by rw [cc _ _ (by first | omega | (simp; done) | (simp; omega))]; first | assumption | (simp [go_sem, *]; done)
  have lt6_9 : w8.heap.size < w9.heap.size := by omega
  have c6_0_9 : w9.cell? ⟨w8.heap.size, 0, none⟩ = some (.int .i64 u1) := by rw [cc _ _ (by first | omega | (simp; done) | (simp; omega))]; first | assumption | (simp [go_sem, *]; done)
  have c6_1_9 : w9.cell? ⟨w8.heap.size, 1, none⟩ = some (.int .i64 u2) := by rw [cc _ _ (by first | omega | (simp; done) | (simp; omega))]; first | assumption | (simp [go_sem, *]; done)
  clear cc ff hb9 lt0_8 c0_0_8 c0_1_8 lt1_8 c1_0_8 c1_1_8 lt2_8 c2_0_8 c2_1_8 lt3_8 c3_0_8 c3_1_8 lt4_8 c4_0_8 c4_1_8 lt5_8 c5_0_8 c5_1_8
  go_wp2_with fail
  go_ret
  refine ⟨rfl, ?_⟩
  go_grown
set_option maxRecDepth 100000 in
set_option maxHeartbeats 2000000 in
theorem sums_ibad_none (m s n t p q x y e0 u1 u2 n1 h i m1 j : Int) (w : World) (he : Env w)
    (HS : Hid (∀ w, Calls Tryd.prog 11 #[.agg #[.int .i64 m, .int .i64 s], .agg #[.int .i64 n, .int .i64 t]] w fun e w' => e = .returned (.tuple #[.agg #[.int .i64 x, .int .i64 y], .int .i64 0]) ∧ Below w.heap.size w w'))
    (HT : Hid (∀ w, Calls Tryd.prog 11 #[.agg #[.int .i64 n, .int .i64 t], .agg #[.int .i64 m, .int .i64 s]] w fun e w' => e = .returned (.tuple #[.agg #[.int .i64 x, .int .i64 y], .int .i64 0]) ∧ Below w.heap.size w w'))
    (HK : Hid (∀ w, Calls Tryd.prog 15 #[.agg #[.int .i64 x, .int .i64 y]] w fun e w' => e = .returned (.int .i64 0) ∧ Below w.heap.size w w'))
    (HZ : Hid (∀ w, Calls Tryd.prog 11 #[.agg #[.int .i64 m, .int .i64 s], .agg #[.int .i64 0, .int .i64 0]] w fun e w' => e = .returned (.tuple #[.agg #[.int .i64 m, .int .i64 s], .int .i64 0]) ∧ Below w.heap.size w w'))
    (HA : Hid (∀ w, Calls Tryd.prog 15 #[.agg #[.int .i64 m, .int .i64 s]] w fun e w' => e = .returned (.int .i64 0) ∧ Below w.heap.size w w'))
    (HN : Hid (∀ w, Calls Tryd.prog 13 #[.agg #[.int .i64 m, .int .i64 s], .agg #[.int .i64 p, .int .i64 q]] w fun e w' => e = .returned (.tuple #[.int .i64 n1, .int .i64 0]) ∧ Below w.heap.size w w'))
    (HU : Hid (∀ w, Calls Tryd.prog 11 #[.agg #[.int .i64 p, .int .i64 q], .agg #[.int .i64 n, .int .i64 t]] w fun e w' => e = .returned (.tuple #[.agg #[.int .i64 u1, .int .i64 u2], .int .i64 i]) ∧ Below w.heap.size w w'))
    (hi0 : (i == 0) = false)
    (HM : Hid (∀ w, Calls Tryd.prog 13 #[.agg #[.int .i64 x, .int .i64 y], .agg #[.int .i64 u1, .int .i64 u2]] w fun e w' => e = .returned (.tuple #[.int .i64 m1, .int .i64 j]) ∧ Below w.heap.size w w'))
    (hy1 : (m == -9223372036854775808) = false) (hy2 : (n == -9223372036854775808) = false) (hy3 : (x == -9223372036854775808) = false) (m0 : -9223372036854775807 ≤ m) (m9 : m ≤ 9223372036854775807) (n0 : -9223372036854775807 ≤ n) (n9 : n ≤ 9223372036854775807) (x0 : -9223372036854775807 ≤ x) (x9 : x ≤ 9223372036854775807)
    (HV : Hid (∀ w, Calls Tryd.prog 11 #[.agg #[.int .i64 (-m), .int .i64 s], .agg #[.int .i64 (-n), .int .i64 t]] w fun e w' => e = .returned (.tuple #[.agg #[.int .i64 (-x), .int .i64 y], .int .i64 0]) ∧ Below w.heap.size w w')) :
    Calls Tryd.prog 8 #[.agg #[.int .i64 m, .int .i64 s], .agg #[.int .i64 n, .int .i64 t], .agg #[.int .i64 p, .int .i64 q]] w fun e w' => e = .returned (.bool true) ∧ Below w.heap.size w w' := by
  have HL := Lib.hid (fun w he => alive_true w he)
  go_enter Tryd.func8, Tryd.ntmps8
  go_wp2_with fail
  refine (HL.out _ (he.stays (by go_grown))).mono ?_; rintro e w1 ⟨rfl, hb1⟩
  obtain ⟨cc, ff⟩ := bcell hb1
  have sz1 : w.heap.size + 1 + 1 + 1 ≤ w1.heap.size := by have := hb1.size; first | exact this | (simp at this; omega)
  have bw1 : Below w.heap.size w w1 := by
    refine Below.trans ?_ (hb1.mono (by first | omega | (simp; done) | (simp; omega)))
    go_grown
  have lt0_1 : w.heap.size < w1.heap.size := by omega
  have c0_0_1 : w1.cell? ⟨w.heap.size, 0, none⟩ = some (.int .i64 m) := by rw [cc _ _ (by first | omega | (simp; done) | (simp; omega))]; first | assumption | (simp [go_sem, *]; done)
  have f0_0_1 : w1.frozen? ⟨w.heap.size, 0, none⟩ = false := by rw [ff _ _ (by first | omega | (simp; done) | (simp; omega))]; first | assumption | (simp [go_sem, *]; done)
  have c0_1_1 : w1.cell? ⟨w.heap.size, 1, none⟩ = some (.int .i64 s) := by rw [cc _ _ (by first | omega | (simp; done) | (simp; omega))]; first | assumption | (simp [go_sem, *]; done)
  have f0_1_1 : w1.frozen? ⟨w.heap.size, 1, none⟩ = false := by rw [ff _ _ (by first | omega | (simp; done) | (simp; omega))]; first | assumption | (simp [go_sem, *]; done)
  have lt1_1 : w.heap.size + 1 < w1.heap.size := by omega
  have c1_0_1 : w1.cell? ⟨w.heap.size + 1, 0, none⟩ = some (.int .i64 n) := by rw [cc _ _ (by first | omega | (simp; done) | (simp; omega))]; first | assumption | (simp [go_sem, *]; done)
  have f1_0_1 : w1.frozen? ⟨w.heap.size + 1, 0, none⟩ = false := by rw [ff _ _ (by first | omega | (simp; done) | (simp; omega))]; first | assumption | (simp [go_sem, *]; done)
  have c1_1_1 : w1.cell? ⟨w.heap.size + 1, 1, none⟩ = some (.int .i64 t) := by rw [cc _ _ (by first | omega | (simp; done) | (simp; omega))]; first | assumption | (simp [go_sem, *]; done)
  have f1_1_1 : w1.frozen? ⟨w.heap.size + 1, 1, none⟩ = false := by rw [ff _ _ (by first | omega | (simp; done) | (simp; omega))]; first | assumption | (simp [go_sem, *]; done)
  have lt2_1 : w.heap.size + 1 + 1 < w1.heap.size := by omega
  have c2_0_1 : w1.cell? ⟨w.heap.size + 1 + 1, 0, none⟩ = some (.int .i64 p) := by rw [cc _ _ (by first | omega | (simp; done) | (simp; omega))]; first | assumption | (simp [go_sem, *]; done)
  have c2_1_1 : w1.cell? ⟨w.heap.size + 1 + 1, 1, none⟩ = some (.int .i64 q) := by rw [cc _ _ (by first | omega | (simp; done) | (simp; omega))]; first | assumption | (simp [go_sem, *]; done)
  clear cc ff hb1
  go_wp2_with fail
  refine (HS.out _).mono ?_; rintro e w2 ⟨rfl, hb2⟩
  obtain ⟨cc, ff⟩ := bcell hb2
  have sz2 : w1.heap.size ≤ w2.heap.size := by have := hb2.size; first | exact this | (simp at this; omega)
  have bw2 : Below w.heap.size w w2 := by
    refine Below.trans ?_ (hb2.mono (by first | omega | (simp; done) | (simp; omega)))
    go_grown
  have lt0_2 : w.heap.size < w2.heap.size := by omega
  have c0_0_2 : w2.cell? ⟨w.heap.size, 0, none⟩ = some (.int .i64 m) := by rw [cc _ _ (by first | omega | (simp; done) | (simp; omega))]; first | assumption | (simp [go_sem, *]; done)
  have f0_0_2 : w2.frozen? ⟨w.heap.size, 0, none⟩ = false := by rw [ff _ _ (by first | omega | (simp; done) | (simp; omega))]; first | assumption | (simp [go_sem, *]; done)
  have c0_1_2 : w2.cell? ⟨w.heap.size, 1, none⟩ = some (.int .i64 s) := by rw [cc _ _ (by first | omega | (simp; done) | (simp; omega))]; first | assumption | (simp [go_sem, *]; done)
  have f0_1_2 : w2.frozen? ⟨w.heap.size, 1, none⟩ = false := by rw [ff _ _ (by first | omega | (simp; done) | (simp; omega))]; first | assumption | (simp [go_sem, *]; done)
  have lt1_2 : w.heap.size + 1 < w2.heap.size := by omega
  have c1_0_2 : w2.cell? ⟨w.heap.size + 1, 0, none⟩ = some (.int .i64 n) := by rw [cc _ _ (by first | omega | (simp; done) | (simp; omega))]; first | assumption | (simp [go_sem, *]; done)
  have f1_0_2 : w2.frozen? ⟨w.heap.size + 1, 0, none⟩ = false := by rw [ff _ _ (by first | omega | (simp; done) | (simp; omega))]; first | assumption | (simp [go_sem, *]; done)
  have c1_1_2 : w2.cell? ⟨w.heap.size + 1, 1, none⟩ = some (.int .i64 t) := by rw [cc _ _ (by first | omega | (simp; done) | (simp; omega))]; first | assumption | (simp [go_sem, *]; done)
  have f1_1_2 : w2.frozen? ⟨w.heap.size + 1, 1, none⟩ = false := by rw [ff _ _ (by first | omega | (simp; done) | (simp; omega))]; first | assumption | (simp [go_sem, *]; done)
  have lt2_2 : w.heap.size + 1 + 1 < w2.heap.size := by omega
  have c2_0_2 : w2.cell? ⟨w.heap.size + 1 + 1, 0, none⟩ = some (.int .i64 p) := by rw [cc _ _ (by first | omega | (simp; done) | (simp; omega))]; first | assumption | (simp [go_sem, *]; done)
  have c2_1_2 : w2.cell? ⟨w.heap.size + 1 + 1, 1, none⟩ = some (.int .i64 q) := by rw [cc _ _ (by first | omega | (simp; done) | (simp; omega))]; first | assumption | (simp [go_sem, *]; done)
  clear cc ff hb2 lt0_1 c0_0_1 f0_0_1 c0_1_1 f0_1_1 lt1_1 c1_0_1 f1_0_1 c1_1_1 f1_1_1 lt2_1 c2_0_1 c2_1_1
  go_wp2_with fail
  refine (HT.out _).mono ?_; rintro e w3 ⟨rfl, hb3⟩
  obtain ⟨cc, ff⟩ := bcell hb3
  have sz3 : w2.heap.size + 1 ≤ w3.heap.size := by have := hb3.size; first | exact this | (simp at this; omega)
  have bw3 : Below w.heap.size w w3 := by
    refine Below.trans ?_ (hb3.mono (by first | omega | (simp; done) | (simp; omega)))
    go_grown
  have lt0_3 : w.heap.size < w3.heap.size := by omega
  have c0_0_3 : w3.cell? ⟨w.heap.size, 0, none⟩ = some (.int .i64 m) := by rw [cc _ _ (by first | omega | (simp; done) | (simp; omega))]; first | assumption | (simp [go_sem, *]; done)
  have f0_0_3 : w3.frozen? ⟨w.heap.size, 0, none⟩ = false := by rw [ff _ _ (by first | omega | (simp; done) | (simp; omega))]; first | assumption | (simp [go_sem, *]; done)
  have c0_1_3 : w3.cell? ⟨w.heap.size, 1, none⟩ = some (.int .i64 s) := by rw [cc _ _ (by first | omega | (simp; done) | (simp; omega))]; first | assumption | (simp [go_sem, *]; done)
  have f0_1_3 : w3.frozen? ⟨w.heap.size, 1, none⟩ = false := by rw [ff _ _ (by first | omega | (simp; done) | (simp; omega))]; first | assumption | (simp [go_sem, *]; done)
  have lt1_3 : w.heap.size + 1 < w3.heap.size := by omega
  have c1_0_3 : w3.cell? ⟨w.heap.size + 1, 0, none⟩ = some (.int .i64 n) := by rw [cc _ _ (by first | omega | (simp; done) | (simp; omega))]; first | assumption | (simp [go_sem, *]; done)
  have f1_0_3 : w3.frozen? ⟨w.heap.size + 1, 0, none⟩ = false := by rw [ff _ _ (by first | omega | (simp; done) | (simp; omega))]; first | assumption | (simp [go_sem, *]; done)
  have c1_1_3 : w3.cell? ⟨w.heap.size + 1, 1, none⟩ = some (.int .i64 t) := by rw [cc _ _ (by first | omega | (simp; done) | (simp; omega))]; first | assumption | (simp [go_sem, *]; done)
  have f1_1_3 : w3.frozen? ⟨w.heap.size + 1, 1, none⟩ = false := by rw [ff _ _ (by first | omega | (simp; done) | (simp; omega))]; first | assumption | (simp [go_sem, *]; done)
  have lt2_3 : w.heap.size + 1 + 1 < w3.heap.size := by omega
  have c2_0_3 : w3.cell? ⟨w.heap.size + 1 + 1, 0, none⟩ = some (.int .i64 p) := by rw [cc _ _ (by first | omega | (simp; done) | (simp; omega))]; first | assumption | (simp [go_sem, *]; done)
  have c2_1_3 : w3.cell? ⟨w.heap.size + 1 + 1, 1, none⟩ = some (.int .i64 q) := by rw [cc _ _ (by first | omega | (simp; done) | (simp; omega))]; first | assumption | (simp [go_sem, *]; done)
  have lt3_3 : w2.heap.size < w3.heap.size := by omega
  have c3_0_3 : w3.cell? ⟨w2.heap.size, 0, none⟩ = some (.int .i64 x) := by rw [cc _ _ (by first | omega | (simp; done) | (simp; omega))]; first | assumption | (simp [go_sem, *]; done)
  have c3_1_3 : w3.cell? ⟨w2.heap.size, 1, none⟩ = some (.int .i64 y) := by rw [cc _ _ (by first | omega | (simp; done) | (simp; omega))]; first | assumption | (simp [go_sem, *]; done)
  clear cc ff hb3 lt0_2 c0_0_2 f0_0_2 c0_1_2 f0_1_2 lt1_2 c1_0_2 f1_0_2 c1_1_2 f1_1_2 lt2_2 c2_0_2 c2_1_2
  go_wp2_with fail
  refine (HK.out _).mono ?_; rintro e w4 ⟨rfl, hb4⟩
  obtain ⟨cc, ff⟩ := bcell hb4
  have sz4 : w3.heap.size + 1 ≤ w4.heap.size := by have := hb4.size; first | exact this | (simp at this; omega)
  have bw4 : Below w.heap.size w w4 := by
    refine Below.trans ?_ (hb4.mono (by first | omega | (simp; done) | (simp; omega)))
    go_grown
  have lt0_4 : w.heap.size < w4.heap.size := by omega
  have c0_0_4 : w4.cell? ⟨w.heap.size, 0, none⟩ = some (.int .i64 m) := by rw [cc _ _ (by first | omega | (simp; done) | (simp; omega))]; first | assumption | (simp [go_sem, *]; done)
  have f0_0_4 : w4.frozen? ⟨w.heap.size, 0, none⟩ = false := by rw [ff _ _ (by first | omega | (simp; done) | (simp; omega))]; first | assumption | (simp [go_sem, *]; done)
  have c0_1_4 : w4.cell? ⟨w.heap.size, 1, none⟩ = some (.int .i64 s) := by rw [cc _ _ (by first | omega | (simp; done) | (simp; omega))]; first | assumption | (simp [go_sem, *]; done)
  have f0_1_4 : w4.frozen? ⟨w.heap.size, 1, none⟩ = false := by rw [ff _ _ (by first | omega | (simp; done) | (simp; omega))]; first | assumption | (simp [go_sem, *]; done)
  have lt1_4 : w.heap.size + 1 < w4.heap.size := by omega
  have c1_0_4 : w4.cell? ⟨w.heap.size + 1, 0, none⟩ = some (.int .i64 n) := by rw [cc _ _ (by first | omega | (simp; done) | (simp; omega))]; first | assumption | (simp [go_sem, *]; done)
  have f1_0_4 : w4.frozen? ⟨w.heap.size + 1, 0, none⟩ = false := by rw [ff _ _ (by first | omega | (simp; done) | (simp; omega))]; first | assumption | (simp [go_sem, *]; done)
  have c1_1_4 : w4.cell? ⟨w.heap.size + 1, 1, none⟩ = some (.int .i64 t) := by rw [cc _ _ (by first | omega | (simp; done) | (simp; omega))]; first | assumption | (simp [go_sem, *]; done)
  have f1_1_4 : w4.frozen? ⟨w.heap.size + 1, 1, none⟩ = false := by rw [ff _ _ (by first | omega | (simp; done) | (simp; omega))]; first | assumption | (simp [go_sem, *]; done)
  have lt2_4 : w.heap.size + 1 + 1 < w4.heap.size := by omega
  have c2_0_4 : w4.cell? ⟨w.heap.size + 1 + 1, 0, none⟩ = some (.int .i64 p) := by rw [cc _ _ (by first | omega | (simp; done) | (simp; omega))]; first | assumption | (simp [go_sem, *]; done)
  have c2_1_4 : w4.cell? ⟨w.heap.size + 1 + 1, 1, none⟩ = some (.int .i64 q) := by rw [cc _ _ (by first | omega | (simp; done) | (simp; omega))]; first | assumption | (simp [go_sem, *]; done)
  have lt3_4 : w2.heap.size < w4.heap.size := by omega
  have c3_0_4 : w4.cell? ⟨w2.heap.size, 0, none⟩ = some (.int .i64 x) := by rw [cc _ _ (by first | omega | (simp; done) | (simp; omega))]; first | assumption | (simp [go_sem, *]; done)
  have c3_1_4 : w4.cell? ⟨w2.heap.size, 1, none⟩ = some (.int .i64 y) := by rw [cc _ _ (by first | omega | (simp; done) | (simp; omega))]; first | assumption | (simp [go_sem, *]; done)
  have lt4_4 : w3.heap.size < w4.heap.size := by omega
  have c4_0_4 : w4.cell? ⟨w3.heap.size, 0, none⟩ = some (.int .i64 x) := by rw [cc _ _ (by first | omega | (simp; done) | (simp; omega))]; first | assumption | (simp [go_sem, *]; done)
  have c4_1_4 : w4.cell? ⟨w3.heap.size, 1, none⟩ = some (.int .i64 y) := by rw [cc _ _ (by first | omega | (simp; done) | (simp; omega))]; first | assumption | (simp [go_sem, *]; done)
  clear cc ff hb4 lt0_3 c0_0_3 f0_0_3 c0_1_3 f0_1_3 lt1_3 c1_0_3 f1_0_3 c1_1_3 f1_1_3 lt2_3 c2_0_3 c2_1_3 lt3_3 c3_0_3 c3_1_3
  go_wp2_with fail
  refine (HZ.out _).mono ?_; rintro e w5 ⟨rfl, hb5⟩
  obtain ⟨cc, ff⟩ := bcell hb5
  have sz5 : w4.heap.size ≤ w5.heap.size := by have := hb5.size; first | exact this | (simp at this; omega)
  have bw5 : Below w.heap.size w w5 := by
    refine Below.trans ?_ (hb5.mono (by first | omega | (simp; done) | (simp; omega)))
    go_grown
  have lt0_5 : w.heap.size < w5.heap.size := by omega
  have c0_0_5 : w5.cell? ⟨w.heap.size, 0, none⟩ = some (.int .i64 m) := by rw [cc _ _ (by first | omega | (simp; done) | (simp; omega))]; first | assumption | (simp [go_sem, *]; done)
  have f0_0_5 : w5.frozen? ⟨w.heap.size, 0, none⟩ = false := by rw [ff _ _ (by first | omega | (simp; done) | (simp; omega))]; first | assumption | (simp [go_sem, *]; done)
  have c0_1_5 : w5.cell? ⟨w.heap.size, 1, none⟩ = some (.int .i64 s) := by rw [cc _ _ (by first | omega | (simp; done) | (simp; omega))]; first | assumption | (simp [go_sem, *]; done)
  have f0_1_5 : w5.frozen? ⟨w.heap.size, 1, none⟩ = false := by rw [ff _ _ (by first | omega | (simp; done) | (simp; omega))]; first | assumption | (simp [go_sem, *]; done)
  have lt1_5 : w.heap.size + 1 < w5.heap.size := by omega
  have c1_0_5 : w5.cell? ⟨w.heap.size + 1, 0, none⟩ = some (.int .i64 n) := by rw [cc _ _ (by first | omega | (simp; done) | (simp; omega))]; first | assumption | (simp [go_sem, *]; done)
  have f1_0_5 : w5.frozen? ⟨w.heap.size + 1, 0, none⟩ = false := by rw [ff _ _ (by first | omega | (simp; done) | (simp; omega))]; first | assumption | (simp [go_sem, *]; done)
  have c1_1_5 : w5.cell? ⟨w.heap.size + 1, 1, none⟩ = some (.int .i64 t) := by rw [cc _ _ (by first | omega | (simp; done) | (simp; omega))]; first | assumption | (simp [go_sem, *]; done)
  have f1_1_5 : w5.frozen? ⟨w.heap.size + 1, 1, none⟩ = false := by rw [ff _ _ (by first | omega | (simp; done) | (simp; omega))]; first | assumption | (simp [go_sem, *]; done)
  have lt2_5 : w.heap.size + 1 + 1 < w5.heap.size := by omega
  have c2_0_5 : w5.cell? ⟨w.heap.size + 1 + 1, 0, none⟩ = some (.int .i64 p) := by rw [cc _ _ (by first | omega | (simp; done) | (simp; omega))]; first | assumption | (simp [go_sem, *]; done)
  have c2_1_5 : w5.cell? ⟨w.heap.size + 1 + 1, 1, none⟩ = some (.int .i64 q) := by rw [cc _ _ (by first | omega | (simp; done) | (simp; omega))]; first | assumption | (simp [go_sem, *]; done)
  have lt3_5 : w2.heap.size < w5.heap.size := by omega
  have c3_0_5 : w5.cell? ⟨w2.heap.size, 0, none⟩ = some (.int .i64 x) := by rw [cc _ _ (by first | omega | (simp; done) | (simp; omega))]; first | assumption | (simp [go_sem, *]; done)
  have c3_1_5 : w5.cell? ⟨w2.heap.size, 1, none⟩ = some (.int .i64 y) := by rw [cc _ _ (by first | omega | (simp; done) | (simp; omega))]; first | assumption | (simp [go_sem, *]; done)
  have lt4_5 : w3.heap.size < w5.heap.size := by omega
  have c4_0_5 : w5.cell? ⟨w3.heap.size, 0, none⟩ = some (.int .i64 x) := by rw [cc _ _ (by first | omega | (simp; done) | (simp; omega))]; first | assumption | (simp [go_sem, *]; done)
  have c4_1_5 : w5.cell? ⟨w3.heap.size, 1, none⟩ = some (.int .i64 y) := by rw [cc _ _ (by first | omega | (simp; done) | (simp; omega))]; first | assumption | (simp [go_sem, *]; done)
  clear cc ff hb5 lt0_4 c0_0_4 f0_0_4 c0_1_4 f0_1_4 lt1_4 c1_0_4 f1_0_4 c1_1_4 f1_1_4 lt2_4 c2_0_4 c2_1_4 lt3_4 c3_0_4 c3_1_4 lt4_4 c4_0_4 c4_1_4
  go_wp2_with fail
  refine (HA.out _).mono ?_; rintro e w6 ⟨rfl, hb6⟩
  obtain ⟨cc, ff⟩ := bcell hb6
  have sz6 : w5.heap.size + 1 ≤ w6.heap.size := by have := hb6.size; first | exact this | (simp at this; omega)
  have bw6 : Below w.heap.size w w6 := by
    refine Below.trans ?_ (hb6.mono (by first | omega | (simp; done) | (simp; omega)))
    go_grown
  have lt0_6 : w.heap.size < w6.heap.size := by omega
  have c0_0_6 : w6.cell? ⟨w.heap.size, 0, none⟩ = some (.int .i64 m) := by rw [cc _ _ (by first | omega | (simp; done) | (simp; omega))]; first | assumption | (simp [go_sem, *]; done)
  have f0_0_6 : w6.frozen? ⟨w.heap.size, 0, none⟩ = false := by rw [ff _ _ (by first | omega | (simp; done) | (simp; omega))]; first | assumption | (simp [go_sem, *]; done)
  have c0_1_6 : w6.cell? ⟨w.heap.size, 1, none⟩ = some (.int .i64 s) := by rw [cc _ _ (by first | omega | (simp; done) | (simp; omega))]; first | assumption | (simp [go_sem, *]; done)
  have f0_1_6 : w6.frozen? ⟨w.heap.size, 1, none⟩ = false := by rw [ff _ _ (by first | omega | (simp; done) | (simp; omega))]; first | assumption | (simp [go_sem, *]; done)
  have lt1_6 : w.heap.size + 1 < w6.heap.size := by omega
  have c1_0_6 : w6.cell? ⟨w.heap.size + 1, 0, none⟩ = some (.int .i64 n) := by rw [cc _ _ (by first | omega | (simp; done) | (simp; omega))]; first | assumption | (simp [go_sem, *]; done)
  have f1_0_6 : w6.frozen? ⟨w.heap.size + 1, 0, none⟩ = false := by rw [ff _ _ (by first | omega | (simp; done) | (simp; omega))]; first | assumption | (simp [go_sem, *]; done)
  have c1_1_6 : w6.cell? ⟨w.heap.size + 1, 1, none⟩ = some (.int .i64 t) := by rw [cc _ _ (by first | omega | (simp; done) | (simp; omega))]; first | assumption | (simp [go_sem, *]; done)
  have f1_1_6 : w6.frozen? ⟨w.heap.size + 1, 1, none⟩ = false := by rw [ff _ _ (by first | omega | (simp; done) | (simp; omega))]; first | assumption | (simp [go_sem, *]; done)
  have lt2_6 : w.heap.size + 1 + 1 < w6.heap.size := by omega
  have c2_0_6 : w6.cell? ⟨w.heap.size + 1 + 1, 0, none⟩ = some (.int .i64 p) := by rw [cc _ _ (by first | omega | (simp; done) | (simp; omega))]; first | assumption | (simp [go_sem, *]; done)
  have c2_1_6 : w6.cell? ⟨w.heap.size + 1 + 1, 1, none⟩ = some (.int .i64 q) := by rw [cc _ _ (by first | omega | (simp; done) | (simp; omega))]; first | assumption | (simp [go_sem, *]; done)
  have lt3_6 : w2.heap.size < w6.heap.size := by omega
  have c3_0_6 : w6.cell? ⟨w2.heap.size, 0, none⟩ = some (.int .i64 x) := by rw [cc _ _ (by first | omega | (simp; done) | (simp; omega))]; first | assumption | (simp [go_sem, *]; done)
  have c3_1_6 : w6.cell? ⟨w2.heap.size, 1, none⟩ = some (.int .i64 y) := by rw [cc _ _ (by first | omega | (simp; done) | (simp; omega))]; first | assumption | (simp [go_sem, *]; done)
  have lt4_6 : w3.heap.size < w6.heap.size := by omega
  have c4_0_6 : w6.cell? ⟨w3.heap.size, 0, none⟩ = some (.int .i64 x) := by rw [cc _ _ (by first | omega | (simp; done) | (simp; omega))]; first | assumption | (simp [go_sem, *]; done)
  have c4_1_6 : w6.cell? ⟨w3.heap.size, 1, none⟩ = some (.int .i64 y) := by rw [cc _ _ (by first | omega | (simp; done) | (simp; omega))]; first | assumption | (simp [go_sem, *]; done)
  have lt5_6 : w5.heap.size < w6.heap.size := by omega
  have c5_0_6 : w6.cell? ⟨w5.heap.size, 0, none⟩ = some (.int .i64 m) := by rw [cc _ _ (by first | omega | (simp; done) | (simp; omega))]; first | assumption | (simp [go_sem, *]; done)
  have c5_1_6 : w6.cell? ⟨w5.heap.size, 1, none⟩ = some (.int .i64 s) := by rw [cc _ _ (by first | omega | (simp; done) | (simp; omega))]; first | assumption | (simp [go_sem, *]; done)
  clear cc ff hb6 lt0_5 c0_0_5 f0_0_5 c0_1_5 f0_1_5 lt1_5 c1_0_5 f1_0_5 c1_1_5 f1_1_5 lt2_5 c2_0_5 c2_1_5 lt3_5 c3_0_5 c3_1_5 lt4_5 c4_0_5 c4_1_5
  go_wp2_with fail
  refine (HN.out _).mono ?_; rintro e w7 ⟨rfl, hb7⟩
  obtain ⟨cc, ff⟩ := bcell hb7
  have sz7 : w6.heap.size ≤ w7.heap.size := by have := hb7.size; first | exact this | (simp at this; omega)
  have bw7 : Below w.heap.size w w7 := by
    refine Below.trans ?_ (hb7.mono (by first | omega | (simp; done) | (simp; omega)))
    go_grown
  have lt0_7 : w.heap.size < w7.heap.size := by omega
  have c0_0_7 : w7.cell? ⟨w.heap.size, 0, none⟩ = some (.int .i64 m) := by rw [cc _ _ (by first | omega | (simp; done) | (simp; omega))]; first | assumption | (simp [go_sem, *]; done)
  have f0_0_7 : w7.frozen? ⟨w.heap.size, 0, none⟩ = false := by rw [ff _ _ (by first | omega | (simp; done) | (simp; omega))]; first | assumption | (simp [go_sem, *]; done)
  have c0_1_7 : w7.cell? ⟨w.heap.size, 1, none⟩ = some (.int .i64 s) := by rw [cc _ _ (by first | omega | (simp; done) | (simp; omega))]; first | assumption | (simp [go_sem, *]; done)
  have f0_1_7 : w7.frozen? ⟨w.heap.size, 1, none⟩ = false := by rw [ff _ _ (by first | omega | (simp; done) | (simp; omega))]; first | assumption | (simp [go_sem, *]; done)
  have lt1_7 : w.heap.size + 1 < w7.heap.size := by omega
  have c1_0_7 : w7.cell? ⟨w.heap.size + 1, 0, none⟩ = some (.int .i64 n) := by rw [cc _ _ (by first | omega | (simp; done) | (simp; omega))]; first | assumption | (simp [go_sem, *]; done)
  have f1_0_7 : w7.frozen? ⟨w.heap.size + 1, 0, none⟩ = false := by rw [ff _ _ (by first | omega | (simp; done) | (simp; omega))]; first | assumption | (simp [go_sem, *]; done)
  have c1_1_7 : w7.cell? ⟨w.heap.size + 1, 1, none⟩ = some (.int .i64 t) := by rw [cc _ _ (by first | omega | (simp; done) | (simp; omega))]; first | assumption | (simp [go_sem, *]; done)
  have f1_1_7 : w7.frozen? ⟨w.heap.size + 1, 1, none⟩ = false := by rw [ff _ _ (by first | omega | (simp; done) | (simp; omega))]; first | assumption | (simp [go_sem, *]; done)
  have lt2_7 : w.heap.size + 1 + 1 < w7.heap.size := by omega
  have c2_0_7 : w7.cell? ⟨w.heap.size + 1 + 1, 0, none⟩ = some (.int .i64 p) := by rw [cc _ _ (by first | omega | (simp; done) | (simp; omega))]; first | assumption | (simp [go_sem, *]; done)
  have c2_1_7 : w7.cell? ⟨w.heap.size + 1 + 1, 1, none⟩ = some (.int .i64 q) := by rw [cc _ _ (by first | omega | (simp; done) | (simp; omega))]; first | assumption | (simp [go_sem, *]; done)
  have lt3_7 : w2.heap.size < w7.heap.size := by omega
  have c3_0_7 : w7.cell? ⟨w2.heap.size, 0, none⟩ = some (.int .i64 x) := by rw [cc _ _ (by first | omega | (simp; done) | (simp; omega))]; first | assumption | (simp [go_sem, *]; done)
  have c3_1_7 : w7.cell? ⟨w2.heap.size, 1, none⟩ = some (.int .i64 y) := by rw [cc _ _ (by first | omega | (simp; done) | (simp; omega))]; first | assumption | (simp [go_sem, *]; done)
  have lt4_7 : w3.heap.size < w7.heap.size := by omega
  have c4_0_7 : w7.cell? ⟨w3.heap.size, 0, none⟩ = some (.int .i64 x) := by rw [cc _ _ (by first | omega | (simp; done) | (simp; omega))]; first | assumption | (simp [go_sem, *]; done)
  have c4_1_7 : w7.cell? ⟨w3.heap.size, 1, none⟩ = some (.int .i64 y) := by rw [cc _ _ (by first | omega | (simp; done) | (simp; omega))]; first | assumption | (simp [go_sem, *]; done)
  have lt5_7 : w5.heap.size < w7.heap.size := by omega
  have c5_0_7 : w7.cell? ⟨w5.heap.size, 0, none⟩ = some (.int .i64 m) := by rw [cc _ _ (by first | omega | (simp; done) | (simp; omega))]; first | assumption | (simp [go_sem, *]; done)
  have c5_1_7 : w7.cell? ⟨w5.heap.size, 1, none⟩ = some (.int .i64 s) := by rw [cc _ _ (by first | omega | (simp; done) | (simp; omega))]; first | assumption | (simp [go_sem, *]; done)
  clear cc ff hb7 lt0_6 c0_0_6 f0_0_6 c0_1_6 f0_1_6 lt1_6 c1_0_6 f1_0_6 c1_1_6 f1_1_6 lt2_6 c2_0_6 c2_1_6 lt3_6 c3_0_6 c3_1_6 lt4_6 c4_0_6 c4_1_6 lt5_6 c5_0_6 c5_1_6
  go_wp2_with fail
  refine (HU.out _).mono ?_; rintro e w8 ⟨rfl, hb8⟩
  obtain ⟨cc, ff⟩ := bcell hb8
  have sz8 : w7.heap.size ≤ w8.heap.size := by have := hb8.size; first | exact this | (simp at this; omega)
  have bw8 : Below w.heap.size w w8 := by
    refine Below.trans ?_ (hb8.mono (by first | omega | (simp; done) | (simp; omega)))
    go_grown
  have lt0_8 : w.heap.size < w8.heap.size := by omega
  have c0_0_8 : w8.cell? ⟨w.heap.size, 0, none⟩ = some (.int .i64 m) := by rw [cc _ _ (by first | omega | (simp; done) | (simp; omega))]; first | assumption | (simp [go_sem, *]; done)
  have f0_0_8 : w8.frozen? ⟨w.heap.size, 0, none⟩ = false := by rw [ff _ _ (by first | omega | (simp; done) | (simp; omega))]; first | assumption | (simp [go_sem, *]; done)
  have c0_1_8 : w8.cell? ⟨w.heap.size, 1, none⟩ = some (.int .i64 s) := by rw [cc _ _ (by first | omega | (simp; done) | (simp; omega))]; first | assumption | (simp [go_sem, *]; done)
  have f0_1_8 : w8.frozen? ⟨w.heap.size, 1, none⟩ = false := by rw [ff _ _ (by first | omega | (simp; done) | (simp; omega))]; first | assumption | (simp [go_sem, *]; done)
  have lt1_8 : w.heap.size + 1 < w8.heap.size := by omega
  have c1_0_8 : w8.cell? ⟨w.heap.size + 1, 0, none⟩ = some (.int .i64 n) := by rw [cc _ _ (by first | omega | (simp; done) | (simp; omega))]; first | assumption | (simp [go_sem, *]; done)
  have f1_0_8 : w8.frozen? ⟨w.heap.size + 1, 0, none⟩ = false := by rw [ff _ _ (by first | omega | (simp; done) | (simp; omega))]; first | assumption | (simp [go_sem, *]; done)
  have c1_1_8 : w8.cell? ⟨w.heap.size + 1, 1, none⟩ = some (.int .i64 t) := by rw [cc _ _ (by first | omega | (simp; done) | (simp; omega))]; first | assumption | (simp [go_sem, *]; done)
  have f1_1_8 : w8.frozen? ⟨w.heap.size + 1, 1, none⟩ = false := by rw [ff _ _ (by first | omega | (simp; done) | (simp; omega))]; first | assumption | (simp [go_sem, *]; done)
  have lt2_8 : w.heap.size + 1 + 1 < w8.heap.size := by omega
  have c2_0_8 : w8.cell? ⟨w.heap.size + 1 + 1, 0, none⟩ = some (.int .i64 p) := by rw [cc _ _ (by first | omega | (simp; done) | (simp; omega))]; first | assumption | (simp [go_sem, *]; done)
  have c2_1_8 : w8.cell? ⟨w.heap.size + 1 + 1, 1, none⟩ = some (.int .i64 q) := by rw [cc _ _ (by first | omega | (simp; done) | (simp; omega))]; first | assumption | (simp [go_sem, *]; done)
  have lt3_8 : w2.heap.size < w8.heap.size := by omega
  have c3_0_8 : w8.cell? ⟨w2.heap.size, 0, none⟩ = some (.int .i64 x) := by rw [cc _ _ (by first | omega | (simp; done) | (simp; omega))]; first | assumption | (simp [go_sem, *]; done)
  have c3_1_8 : w8.cell? ⟨w2.heap.size, 1, none⟩ = some (.int .i64 y) := by rw [cc _ _ (by first | omega | (simp; done) | (simp; omega))]; first | assumption | (simp [go_sem, *]; done)
  have lt4_8 : w3.heap.size < w8.heap.size := by omega
  have c4_0_8 : w8.cell? ⟨w3.heap.size, 0, none⟩ = some (.int .i64 x) := by rw [cc _ _ (by first | omega | (simp; done) | (simp; omega))]; first | assumption | (simp [go_sem, *]; done)
  have c4_1_8 : w8.cell? ⟨w3.heap.size, 1, none⟩ = some (.int .i64 y) := by rw [cc _ _ (by first | omega | (simp; done) | (simp; omega))]; first | assumption | (simp [go_sem, *]; done)
  have lt5_8 : w5.heap.size < w8.heap.size := by omega
  have c5_0_8 : w8.cell? ⟨w5.heap.size, 0, none⟩ = some (.int .i64 m) := by rw [cc _ _ (by first | omega | (simp; done) | (simp; omega))]; first | assumption | (simp [go_sem, *]; done)
  have c5_1_8 : w8.cell? ⟨w5.heap.size, 1, none⟩ = some (.int .i64 s) := by rw [cc _ _ (by first | omega | (simp; done) | (simp; omega))]; first | assumption | (simp [go_sem, *]; done)
  clear cc ff hb8 lt0_7 c0_0_7 f0_0_7 c0_1_7 f0_1_7 lt1_7 c1_0_7 f1_0_7 c1_1_7 f1_1_7 lt2_7 c2_0_7 c2_1_7 lt3_7 c3_0_7 c3_1_7 lt4_7 c4_0_7 c4_1_7 lt5_7 c5_0_7 c5_1_7
  go_wp2_with fail
  refine (HM.out _).mono ?_; rintro e w9 ⟨rfl, hb9⟩
  obtain ⟨cc, ff⟩ := bcell hb9
  have sz9 : w8.heap.size + 1 ≤ w9.heap.size := by have := hb9.size; first | exact this | (simp at this; omega)
  have bw9 : Below w.heap.size w w9 := by
    refine Below.trans ?_ (hb9.mono (by first | omega | (simp; done) | (simp; omega)))
    go_grown
  have lt0_9 : w.heap.size < w9.heap.size := by omega
  have c0_0_9 : w9.cell? ⟨w.heap.size, 0, none⟩ = some (.int .i64 m) := by rw [cc _ _ (by first | omega | (simp; done) | (simp; omega))]; first | assumption | (simp [go_sem, *]; done)
  have f0_0_9 : w9.frozen? ⟨w.heap.size, 0, none⟩ = false := by rw [ff _ _ (by first | omega | (simp; done) | (simp; omega))]; first | assumption | (simp [go_sem, *]; done)
  have c0_1_9 : w9.cell? ⟨w.heap.size, 1, none⟩ = some (.int .i64 s) := by rw [cc _ _ (by first | omega | (simp; done) | (simp; omega))]; first | assumption | (simp [go_sem, *]; done)
  have f0_1_9 : w9.frozen? ⟨w.heap.size, 1, none⟩ = false := by rw [ff _ _ (by first | omega | (simp; done) | (simp; omega))]; first | assumption | (simp [go_sem, *]; done)
  have lt1_9 : w.heap.size + 1 < w9.heap.size := by omega
  have c1_0_9 : w9.cell? ⟨w.heap.size + 1, 0, none⟩ = some (.int .i64 n) := by rw [cc _ _ (by first | omega | (simp; done) | (simp; omega))]; first | assumption | (simp [go_sem, *]; done)
  have f1_0_9 : w9.frozen? ⟨w.heap.size + 1, 0, none⟩ = false := by rw [ff _ _ (by first | omega | (simp; done) | (simp; omega))]; first | assumption | (simp [go_sem, *]; done)
  have c1_1_9 : w9.cell? ⟨w.heap.size + 1, 1, none⟩ = some (.int .i64 t) := by rw [cc _ _ (by first | omega | (simp; done) | (simp; omega))]; first | assumption | (simp [go_sem, *]; done)
  have f1_1_9 : w9.frozen? ⟨w.heap.size + 1, 1, none⟩ = false := by rw [ff _ _ (by first | omega | (simp; done) | (simp; omega))]; first | assumption | (simp [go_sem, *]; done)
  have lt2_9 : w.heap.size + 1 + 1 < w9.heap.size := by omega
  have c2_0_9 : w9.cell? ⟨w.heap.size + 1 + 1, 0, none⟩ = some (.int .i64 p) := by rw [cc _ _ (by first | omega | (simp; done) | (simp; omega))]; first | assumption | (simp [go_sem, *]; done)
  have c2_1_9 : w9.cell? ⟨w.heap.size + 1 + 1, 1, none⟩ = some (.int .i64 q) := by rw [cc _ _ (by first | omega | (simp; done) | (simp; omega))]; first | assumption | (simp [go_sem, *]; done)
  have lt3_9 : w2.heap.size < w9.heap.size := by omega
  have c3_0_9 : w9.cell? ⟨w2.heap.size, 0, none⟩ = some (.int .i64 x) := by rw [cc _ _ (by first | omega | (simp; done) | (simp; omega))]; first | assumption | (simp [go_sem, *]; done)
  have c3_1_9 : w9.cell? ⟨w2.heap.size, 1, none⟩ = some (.int .i64 y) := by rw [cc _ _ (by first | omega | (simp; done) | (simp; omega))]; first | assumption | (simp [go_sem, *]; done)
  have lt4_9 : w3.heap.size < w9.heap.size := by omega
  have c4_0_9 : w9.cell? ⟨w3.heap.size, 0, none⟩ = some (.int .i64 x) := by rw [cc _ _ (by first | omega | (simp; done) | (simp; omega))]; first | assumption | (simp [go_sem, *]; done)
  have c4_1_9 : w9.cell? ⟨w3.heap.size, 1, none⟩ = some (.int .i64 y) := by rw [cc _ _ (by first | omega | (simp; done) | (simp; omega))]; first | assumption | (simp [go_sem, *]; done)
  have lt5_9 : w5.heap.size < w9.heap.size := by omega
  have c5_0_9 : w9.cell? ⟨w5.heap.size, 0, none⟩ = some (.int .i64 m) := by rw [cc _ _ (by first | omega | (simp; done) | (simp; omega))]; first | assumption | (simp [go_sem, *]; done)
  have c5_1_9 : w9.cell? ⟨w5.heap.size, 1, none⟩ = some (.int .i64 s) := by rw [cc _ _ (by first | omega | (simp; done) | (simp; omega))]; first | assumption | (simp [go_sem, *]; done)
  have lt6_9 : w8.heap.size < w9.heap.size := by omega
  have c6_0_9 : w9.cell? ⟨w8.heap.size, 0, none⟩ = some (.int .i64 u1) := by rw [cc _ _ (by first | omega | (simp; done) | (simp; omega))]; first | assumption | (simp [go_sem, *]; done)
  have c6_1_9 : w9.cell? ⟨w8.heap.size, 1, none⟩ = some (.int .i64 u2) := by rw [cc _ _ (by first | omega | (simp; done) | (simp; omega))]; first | assumption | (simp [go_sem, *]; done)
  clear cc ff hb9 lt0_8 c0_0_8 f0_0_8 c0_1_8 f0_1_8 lt1_8 c1_0_8 f1_0_8 c1_1_8 f1_1_8 lt2_8 c2_0_8 c2_1_8 lt3_8 c3_0_8 c3_1_8 lt4_8 c4_0_8 c4_1_8 lt5_8 c5_0_8 c5_1_8
  go_wp2_with fail
  go_region
  go_wp2_with fail
  refine (HV.out _).mono ?_; rintro e w10 ⟨rfl, hb10⟩
  obtain ⟨cc, ff⟩ := bcell hb10
  have sz10 : w9.heap.size ≤ w10.heap.size := by have := hb10.size; first | exact this | (simp at this; omega)
  have bw10 : Below w.heap.size w w10 := by
    refine Below.trans ?_ (hb10.mono (by first | omega | (simp; done) | (simp; omega)))
    go_grown
  have lt3_10 : w2.heap.size < w10.heap.size := by omega
  have c3_0_10 : w10.cell? ⟨w2.heap.size, 0, none⟩ = some (.int .i64 x) := by rw [cc _ _ (by first | omega | (simp; done) | (simp; omega))]; first | assumption | (simp [go_sem, *]; done)
  have c3_1_10 : w10.cell? ⟨w2.heap.size, 1, none⟩ = some (.int .i64 y) := by rw [cc _ _ (by first | omega | (simp; done) | (simp; omega))]; first | assumption | (simp [go_sem, *]; done)
  clear cc ff hb10 lt0_9 c0_0_9 f0_0_9 c0_1_9 f0_1_9 lt1_9 c1_0_9 f1_0_9 c1_1_9 f1_1_9 lt2_9 c2_0_9 c2_1_9 lt3_9 c3_0_9 c3_1_9 lt4_9 c4_0_9 c4_1_9 lt5_9 c5_0_9 c5_1_9 lt6_9 c6_0_9 c6_1_9
  go_wp2_with fail
  go_ret
  refine ⟨rfl, ?_⟩
  go_grown
set_option maxRecDepth 100000 in
set_option maxHeartbeats 2000000 in
theorem sums_ibad_ma (m s n t p q x y e0 u1 u2 n1 h i m1 j : Int) (w : World) (he : Env w)
    (HS : Hid (∀ w, Calls Tryd.prog 11 #[.agg #[.int .i64 m, .int .i64 s], .agg #[.int .i64 n, .int .i64 t]] w fun e w' => e = .returned (.tuple #[.agg #[.int .i64 x, .int .i64 y], .int .i64 0]) ∧ Below w.heap.size w w'))
    (HT : Hid (∀ w, Calls Tryd.prog 11 #[.agg #[.int .i64 n, .int .i64 t], .agg #[.int .i64 m, .int .i64 s]] w fun e w' => e = .returned (.tuple #[.agg #[.int .i64 x, .int .i64 y], .int .i64 0]) ∧ Below w.heap.size w w'))
    (HK : Hid (∀ w, Calls Tryd.prog 15 #[.agg #[.int .i64 x, .int .i64 y]] w fun e w' => e = .returned (.int .i64 0) ∧ Below w.heap.size w w'))
    (HZ : Hid (∀ w, Calls Tryd.prog 11 #[.agg #[.int .i64 m, .int .i64 s], .agg #[.int .i64 0, .int .i64 0]] w fun e w' => e = .returned (.tuple #[.agg #[.int .i64 m, .int .i64 s], .int .i64 0]) ∧ Below w.heap.size w w'))
    (HA : Hid (∀ w, Calls Tryd.prog 15 #[.agg #[.int .i64 m, .int .i64 s]] w fun e w' => e = .returned (.int .i64 0) ∧ Below w.heap.size w w'))
    (HN : Hid (∀ w, Calls Tryd.prog 13 #[.agg #[.int .i64 m, .int .i64 s], .agg #[.int .i64 p, .int .i64 q]] w fun e w' => e = .returned (.tuple #[.int .i64 n1, .int .i64 0]) ∧ Below w.heap.size w w'))
    (HU : Hid (∀ w, Calls Tryd.prog 11 #[.agg #[.int .i64 p, .int .i64 q], .agg #[.int .i64 n, .int .i64 t]] w fun e w' => e = .returned (.tuple #[.agg #[.int .i64 u1, .int .i64 u2], .int .i64 i]) ∧ Below w.heap.size w w'))
    (hi0 : (i == 0) = false)
    (HM : Hid (∀ w, Calls Tryd.prog 13 #[.agg #[.int .i64 x, .int .i64 y], .agg #[.int .i64 u1, .int .i64 u2]] w fun e w' => e = .returned (.tuple #[.int .i64 m1, .int .i64 j]) ∧ Below w.heap.size w w'))
    (hy1 : (m == -9223372036854775808) = true) :
    Calls Tryd.prog 8 #[.agg #[.int .i64 m, .int .i64 s], .agg #[.int .i64 n, .int .i64 t], .agg #[.int .i64 p, .int .i64 q]] w fun e w' => e = .returned (.bool true) ∧ Below w.heap.size w w' := by
  have HL := Lib.hid (fun w he => alive_true w he)
  go_enter Tryd.func8, Tryd.ntmps8
  go_wp2_with fail
  refine (HL.out _ (he.stays (by go_grown))).mono ?_; rintro e w1 ⟨rfl, hb1⟩
  obtain ⟨cc, ff⟩ := bcell hb1
  have sz1 : w.heap.size + 1 + 1 + 1 ≤ w1.heap.size := by have := hb1.size; first | exact this | (simp at this; omega)
  have bw1 : Below w.heap.size w w1 := by
    refine Below.trans ?_ (hb1.mono (by first | omega | (simp; done) | (simp; omega)))
    go_grown
  have lt0_1 : w.heap.size < w1.heap.size := by omega
  have c0_0_1 : w1.cell? ⟨w.heap.size, 0, none⟩ = some (.int .i64 m) := by rw [cc _ _ (by first | omega | (simp; done) | (simp; omega))]; first | assumption | (simp [go_sem, *]; done)
  have c0_1_1 : w1.cell? ⟨w.heap.size, 1, none⟩ = some (.int .i64 s) := by rw [cc _ _ (by first | omega | (simp; done) | (simp; omega))]; first | assumption | (simp [go_sem, *]; done)
  have lt1_1 : w.heap.size + 1 < w1.heap.size := by omega
  have c1_0_1 : w1.cell? ⟨w.heap.size + 1, 0, none⟩ = some (.int .i64 n) := by rw [cc _ _ (by first | omega | (simp; done) | (simp; omega))]; first | assumption | (simp [go_sem, *]; done)
  have c1_1_1 : w1.cell? ⟨w.heap.size + 1, 1, none⟩ = some (.int .i64 t) := by rw [cc _ _ (by first | omega | (simp; done) | (simp; omega))]; first | assumption | (simp [go_sem, *]; done)
  have lt2_1 : w.heap.size + 1 + 1 < w1.heap.size := by omega
  have c2_0_1 : w1.cell? ⟨w.heap.size + 1 + 1, 0, none⟩ = some (.int .i64 p) := by rw [cc _ _ (by first | omega | (simp; done) | (simp; omega))]; first | assumption | (simp [go_sem, *]; done)
  have c2_1_1 : w1.cell? ⟨w.heap.size + 1 + 1, 1, none⟩ = some (.int .i64 q) := by rw [cc _ _ (by first | omega | (simp; done) | (simp; omega))]; first | assumption | (simp [go_sem, *]; done)
  clear cc ff hb1
  go_wp2_with fail
  refine (HS.out _).mono ?_; rintro e w2 ⟨rfl, hb2⟩
  obtain ⟨cc, ff⟩ := bcell hb2
  have sz2 : w1.heap.size ≤ w2.heap.size := by have := hb2.size; first | exact this | (simp at this; omega)
  have bw2 : Below w.heap.size w w2 := by
    refine Below.trans ?_ (hb2.mono (by first | omega | (simp; done) | (simp; omega)))
    go_grown
  have lt0_2 : w.heap.size < w2.heap.size := by omega
  have c0_0_2 : w2.cell? ⟨w.heap.size, 0, none⟩ = some (.int .i64 m) := by rw [cc _ _ (by first | omega | (simp; done) | (simp; omega))]; first | assumption | (simp [go_sem, *]; done)
  have c0_1_2 : w2.cell? ⟨w.heap.size, 1, none⟩ = some (.int .i64 s) := by rw [cc _ _ (by first | omega | (simp; done) | (simp; omega))]; first | assumption | (simp [go_sem, *]; done)
  have lt1_2 : w.heap.size + 1 < w2.heap.size := by omega
  have c1_0_2 : w2.cell? ⟨w.heap.size + 1, 0, none⟩ = some (.int .i64 n) := by rw [cc _ _ (by first | omega | (simp; done) | (simp; omega))]; first | assumption | (simp [go_sem, *]; done)
  have c1_1_2 : w2.cell? ⟨w.heap.size + 1, 1, none⟩ = some (.int .i64 t) := by rw [cc _ _ (by first | omega | (simp; done) | (simp; omega))]; first | assumption | (simp [go_sem, *]; done)
  have lt2_2 : w.heap.size + 1 + 1 < w2.heap.size := by omega
  have c2_0_2 : w2.cell? ⟨w.heap.size + 1 + 1, 0, none⟩ = some (.int .i64 p) := by rw [cc _ _ (by first | omega | (simp; done) | (simp; omega))]; first | assumption | (simp [go_sem, *]; done)
  have c2_1_2 : w2.cell? ⟨w.heap.size + 1 + 1, 1, none⟩ = some (.int .i64 q) := by rw [cc _ _ (by first | omega | (simp; done) | (simp; omega))]; first | assumption | (simp [go_sem, *]; done)
  clear cc ff hb2 lt0_1 c0_0_1 c0_1_1 lt1_1 c1_0_1 c1_1_1 lt2_1 c2_0_1 c2_1_1
  go_wp2_with fail
  refine (HT.out _).mono ?_; rintro e w3 ⟨rfl, hb3⟩
  obtain ⟨cc, ff⟩ := bcell hb3
  have sz3 : w2.heap.size + 1 ≤ w3.heap.size := by have := hb3.size; first | exact this | (simp at this; omega)
  have bw3 : Below w.heap.size w w3 := by
    refine Below.trans ?_ (hb3.mono (by first | omega | (simp; done) | (simp; omega)))
    go_grown
  have lt0_3 : w.heap.size < w3.heap.size := by omega
  have c0_0_3 : w3.cell? ⟨w.heap.size, 0, none⟩ = some (.int .i64 m) := by rw [cc _ _ (by first | omega | (simp; done) | (simp; omega))]; first | assumption | (simp [go_sem, *]; done)
  have c0_1_3 : w3.cell? ⟨w.heap.size, 1, none⟩ = some (.int .i64 s) := by rw [cc _ _ (by first | omega | (simp; done) | (simp; omega))]; first | assumption | (simp [go_sem, *]; done)
  have lt1_3 : w.heap.size + 1 < w3.heap.size := by omega
  have c1_0_3 : w3.cell? ⟨w.heap.size + 1, 0, none⟩ = some (.int .i64 n) := by rw [cc _ _ (by first | omega | (simp; done) | (simp; omega))]; first | assumption | (simp [go_sem, *]; done)
  have c1_1_3 : w3.cell? ⟨w.heap.size + 1, 1, none⟩ = some (.int .i64 t) := by rw [cc _ _ (by first | omega | (simp; done) | (simp; omega))]; first | assumption | (simp [go_sem, *]; done)
  have lt2_3 : w.heap.size + 1 + 1 < w3.heap.size := by omega
  have c2_0_3 : w3.cell? ⟨w.heap.size + 1 + 1, 0, none⟩ = some (.int .i64 p) := by rw [cc _ _ (by first | omega | (simp; done) | (simp; omega))]; first | assumption | (simp [go_sem, *]; done)
  have c2_1_3 : w3.cell? ⟨w.heap.size + 1 + 1, 1, none⟩ = some (.int .i64 q) := by rw [cc _ _ (by first | omega | (simp; done) | (simp; omega))]; first | assumption | (simp [go_sem, *]; done)
  have lt3_3 : w2.heap.size < w3.heap.size := by omega
  have c3_0_3 : w3.cell? ⟨w2.heap.size, 0, none⟩ = some (.int .i64 x) := by rw [cc _ _ (by first | omega | (simp; done) | (simp; omega))]; first | assumption | (simp [go_sem, *]; done)
  have c3_1_3 : w3.cell? ⟨w2.heap.size, 1, none⟩ = some (.int .i64 y) := by rw [cc _ _ (by first | omega | (simp; done) | (simp; omega))]; first | assumption | (simp [go_sem, *]; done)
  clear cc ff hb3 lt0_2 c0_0_2 c0_1_2 lt1_2 c1_0_2 c1_1_2 lt2_2 c2_0_2 c2_1_2
  go_wp2_with fail
  refine (HK.out _).mono ?_; rintro e w4 ⟨rfl, hb4⟩
  obtain ⟨cc, ff⟩ := bcell hb4
  have sz4 : w3.heap.size + 1 ≤ w4.heap.size := by have := hb4.size; first | exact this | (simp at this; omega)
  have bw4 : Below w.heap.size w w4 := by
    refine Below.trans ?_ (hb4.mono (by first | omega | (simp; done) | (simp; omega)))
    go_grown
  have lt0_4 : w.heap.size < w4.heap.size := by omega
  have c0_0_4 : w4.cell? ⟨w.heap.size, 0, none⟩ = some (.int .i64 m) := by rw [cc _ _ (by first | omega | (simp; done) | (simp; omega))]; first | assumption | (simp [go_sem, *]; done)
  have c0_1_4 : w4.cell? ⟨w.heap.size, 1, none⟩ = some (.int .i64 s) := by rw [cc _ _ (by first | omega | (simp; done) | (simp; omega))]; first | assumption | (simp [go_sem, *]; done)
  have lt1_4 : w.heap.size + 1 < w4.heap.size := by omega
  have c1_0_4 : w4.cell? ⟨w.heap.size + 1, 0, none⟩ = some (.int .i64 n) := by rw [cc _ _ (by first | omega | (simp; done) | (simp; omega))]; first | assumption | (simp [go_sem, *]; done)
  have c1_1_4 : w4.cell? ⟨w.heap.size + 1, 1, none⟩ = some (.int .i64 t) := by rw [cc _ _ (by first | omega | (simp; done) | (simp; omega))]; first | assumption | (simp [go_sem, *]; done)
  have lt2_4 : w.heap.size + 1 + 1 < w4.heap.size := by omega
  have c2_0_4 : w4.cell? ⟨w.heap.size + 1 + 1, 0, none⟩ = some (.int .i64 p) := by rw [cc _ _ (by first | omega | (simp; done) | (simp; omega))]; first | assumption | (simp [go_sem, *]; done)
  have c2_1_4 : w4.cell? ⟨w.heap.size + 1 + 1, 1, none⟩ = some (.int .i64 q) := by rw [cc _ _ (by first | omega | (simp; done) | (simp; omega))]; first | assumption | (simp [go_sem, *]; done)
  have lt3_4 : w2.heap.size < w4.heap.size := by omega
  have c3_0_4 : w4.cell? ⟨w2.heap.size, 0, none⟩ = some (.int .i64 x) := by rw [cc _ _ (by first | omega | (simp; done) | (simp; omega))]; first | assumption | (simp [go_sem, *]; done)
  have c3_1_4 : w4.cell? ⟨w2.heap.size, 1, none⟩ = some (.int .i64 y) := by rw [cc _ _ (by first | omega | (simp; done) | (simp; omega))]; first | assumption | (simp [go_sem, *]; done)
  have lt4_4 : w3.heap.size < w4.heap.size := by omega
  have c4_0_4 : w4.cell? ⟨w3.heap.size, 0, none⟩ = some (.int .i64 x) := by rw [cc _ _ (by first | omega | (simp; done) | (simp; omega))]; first | assumption | (simp [go_sem, *]; done)
  have c4_1_4 : w4.cell? ⟨w3.heap.size, 1, none⟩ = some (.int .i64 y) := by rw [cc _ _ (by first | omega | (simp; done) | (simp; omega))]; first | assumption | (simp [go_sem, *]; done)
  clear cc ff hb4 lt0_3 c0_0_3 c0_1_3 lt1_3 c1_0_3 c1_1_3 lt2_3 c2_0_3 c2_1_3 lt3_3 c3_0_3 c3_1_3
  go_wp2_with fail
  refine (HZ.out _).mono ?_; rintro e w5 ⟨rfl, hb5⟩
  obtain ⟨cc, ff⟩ := bcell hb5
  have sz5 : w4.heap.size ≤ w5.heap.size := by have := hb5.size; first | exact this | (simp at this; omega)
  have bw5 : Below w.heap.size w w5 := by
    refine Below.trans ?_ (hb5.mono (by first | omega | (simp; done) | (simp; omega)))
    go_grown
  have lt0_5 : w.heap.size < w5.heap.size := by omega
  have c0_0_5 : w5.cell? ⟨w.heap.size, 0, none⟩ = some (.int .i64 m) := by rw [cc _ _ (by first | omega | (simp; done) | (simp; omega))]; first | assumption | (simp [go_sem, *]; done)
  have c0_1_5 : w5.cell? ⟨w.heap.size, 1, none⟩ = some (.int .i64 s) := by rw [cc _ _ (by first | omega | (simp; done) | (simp; omega))]; first | assumption | (simp [go_sem, *]; done)
  have lt1_5 : w.heap.size + 1 < w5.heap.size := by omega
  have c1_0_5 : w5.cell? ⟨w.heap.size + 1, 0, none⟩ = some (.int .i64 n) := by rw [cc _ _ (by first | omega | (simp; done) | (simp; omega))]; first | assumption | (simp [go_sem, *]; done)
  have c1_1_5 : w5.cell? ⟨w.heap.size + 1, 1, none⟩ = some (.int .i64 t) := by rw [cc _ _ (by first | omega | (simp; done) | (simp; omega))]; first | assumption | (simp [go_sem, *]; done)
  have lt2_5 : w.heap.size + 1 + 1 < w5.heap.size := by omega
  have c2_0_5 : w5.cell? ⟨w.heap.size + 1 + 1, 0, none⟩ = some (.int .i64 p) := by rw [cc _ _ (by first | omega | (simp; done) | (simp; omega))]; first | assumption | (simp [go_sem, *]; done)
  have c2_1_5 : w5.cell? ⟨w.heap.size + 1 + 1, 1, none⟩ = some (.int .i64 q) := by rw [cc _ _ (by first | omega | (simp; done) | (simp; omega))]; first | assumption | (simp [go_sem, *]; done)
  have lt3_5 : w2.heap.size < w5.heap.size := by omega
  have c3_0_5 : w5.cell? ⟨w2.heap.size, 0, none⟩ = some (.int .i64 x) := by rw [cc _ _ (by first | omega | (simp; done) | (simp; omega))]; first | assumption | (simp [go_sem, *]; done)
  have c3_1_5 : w5.cell? ⟨w2.heap.size, 1, none⟩ = some (.int .i64 y) := by rw [cc _ _ (by first | omega | (simp; done) | (simp; omega))]; first | assumption | (simp [go_sem, *]; done)
  have lt4_5 : w3.heap.size < w5.heap.size := by omega
  have c4_0_5 : w5.cell? ⟨w3.heap.size, 0, none⟩ = some (.int .i64 x) := by rw [cc _ _ (by first | omega | (simp; done) | (simp; omega))]; first | assumption | (simp [go_sem, *]; done)
  have c4_1_5 : w5.cell? ⟨w3.heap.size, 1, none⟩ = some (.int .i64 y) := by rw [cc _ _ (by first | omega | (simp; done) | (simp; omega))]; first | assumption | (simp [go_sem, *]; done)
  clear cc ff hb5 lt0_4 c0_0_4 c0_1_4 lt1_4 c1_0_4 c1_1_4 lt2_4 c2_0_4 c2_1_4 lt3_4 c3_0_4 c3_1_4 lt4_4 c4_0_4 c4_1_4
  go_wp2_with fail
  refine (HA.out _).mono ?_; rintro e w6 ⟨rfl, hb6⟩
  obtain ⟨cc, ff⟩ := bcell hb6
  have sz6 : w5.heap.size + 1 ≤ w6.heap.size := by have := hb6.size; first | exact this | (simp at this; omega)
  have bw6 : Below w.heap.size w w6 := by
    refine Below.trans ?_ (hb6.mono (by first | omega | (simp; done) | (simp; omega)))
    go_grown
  have lt0_6 : w.heap.size < w6.heap.size := by omega
  have c0_0_6 : w6.cell? ⟨w.heap.size, 0, none⟩ = some (.int .i64 m) := by rw [cc _ _ (by first | omega | (simp; done) | (simp; omega))]; first | assumption | (simp [go_sem, *]; done)
  have c0_1_6 : w6.cell? ⟨w.heap.size, 1, none⟩ = some (.int .i64 s) := by rw [cc _ _ (by first | omega | (simp; done) | (simp; omega))]; first | assumption | (simp [go_sem, *]; done)
  have lt1_6 : w.heap.size + 1 < w6.heap.size := by omega
  have c1_0_6 : w6.cell? ⟨w.heap.size + 1, 0, none⟩ = some (.int .i64 n) := by rw [cc _ _ (by first | omega | (simp; done) | (simp; omega))]; first | assumption | (simp [go_sem, *]; done)
  have c1_1_6 : w6.cell? ⟨w.heap.size + 1, 1, none⟩ = some (.int .i64 t) := by rw [cc _ _ (by first | omega | (simp; done) | (simp; omega))]; first | assumption | (simp [go_sem, *]; done)
  have lt2_6 : w.heap.size + 1 + 1 < w6.heap.size := by omega
  have c2_0_6 : w6.cell? ⟨w.heap.size + 1 + 1, 0, none⟩ = some (.int .i64 p) := by rw [cc _ _ (by first | omega | (simp; done) | (simp; omega))]; first | assumption | (simp [go_sem, *]; done)
  have c2_1_6 : w6.cell? ⟨w.heap.size + 1 + 1, 1, none⟩ = some (.int .i64 q) := by rw [cc _ _ (by first | omega | (simp; done) | (simp; omega))]; first | assumption | (simp [go_sem, *]; done)
  have lt3_6 : w2.heap.size < w6.heap.size := by omega
  have c3_0_6 : w6.cell? ⟨w2.heap.size, 0, none⟩ = some (.int .i64 x) := by rw [cc _ _ (by first | omega | (simp; done) | (simp; omega))]; first | assumption | (simp [go_sem, *]; done)
  have c3_1_6 : w6.cell? ⟨w2.heap.size, 1, none⟩ = some (.int .i64 y) := by rw [cc _ _ (by first | omega | (simp; done) | (simp; omega))]; first | assumption | (simp [go_sem, *]; done)
  have lt4_6 : w3.heap.size < w6.heap.size := by omega
  have c4_0_6 : w6.cell? ⟨w3.heap.size, 0, none⟩ = some (.int .i64 x) := by rw [cc _ _ (by first | omega | (simp; done) | (simp; omega))]; first | assumption | (simp [go_sem, *]; done)
  have c4_1_6 : w6.cell? ⟨w3.heap.size, 1, none⟩ = some (.int .i64 y) := by rw [cc _ _ (by first | omega | (simp; done) | (simp; omega))]; first | assumption | (simp [go_sem, *]; done)
  have lt5_6 : w5.heap.size < w6.heap.size := by omega
  have c5_0_6 : w6.cell? ⟨w5.heap.size, 0, none⟩ = some (.int .i64 m) := by rw [cc _ _ (by first | omega | (simp; done) | (simp; omega))]; first | assumption | (simp [go_sem, *]; done)
  have c5_1_6 : w6.cell? ⟨w5.heap.size, 1, none⟩ = some (.int .i64 s) := by rw [cc _ _ (by first | omega | (simp; done) | (simp; omega))]; first | assumption | (simp [go_sem, *]; done)
  clear cc ff hb6 lt0_5 c0_0_5 c0_1_5 lt1_5 c1_0_5 c1_1_5 lt2_5 c2_0_5 c2_1_5 lt3_5 c3_0_5 c3_1_5 lt4_5 c4_0_5 c4_1_5
  go_wp2_with fail
  refine (HN.out _).mono ?_; rintro e w7 ⟨rfl, hb7⟩
  obtain ⟨cc, ff⟩ := bcell hb7
  have sz7 : w6.heap.size ≤ w7.heap.size := by have := hb7.size; first | exact this | (simp at this; omega)
  have bw7 : Below w.heap.size w w7 := by
    refine Below.trans ?_ (hb7.mono (by first | omega | (simp; done) | (simp; omega)))
    go_grown
  have lt0_7 : w.heap.size < w7.heap.size := by omega
  have c0_0_7 : w7.cell? ⟨w.heap.size, 0, none⟩ = some (.int .i64 m) := by rw [cc _ _ (by first | omega | (simp; done) | (simp; omega))]; first | assumption | (simp [go_sem, *]; done)
  have c0_1_7 : w7.cell? ⟨w.heap.size, 1, none⟩ = some (.int .i64 s) := by rw [cc _ _ (by first | omega | (simp; done) | (simp; omega))]; first | assumption | (simp [go_sem, *]; done)
  have lt1_7 : w.heap.size + 1 < w7.heap.size := by omega
  have c1_0_7 : w7.cell? ⟨w.heap.size + 1, 0, none⟩ = some (.int .i64 n) := by rw [cc _ _ (by first | omega | (simp; done) | (simp; omega))]; first | assumption | (simp [go_sem, *]; done)
  have c1_1_7 : w7.cell? ⟨w.heap.size + 1, 1, none⟩ = some (.int .i64 t) := by rw [cc _ _ (by first | omega | (simp; done) | (simp; omega))]; first | assumption | (simp [go_sem, *]; done)
  have lt2_7 : w.heap.size + 1 + 1 < w7.heap.size := by omega
  have c2_0_7 : w7.cell? ⟨w.heap.size + 1 + 1, 0, none⟩ = some (.int .i64 p) := by rw [cc _ _ (by first | omega | (simp; done) | (simp; omega))]; first | assumption | (simp [go_sem, *]; done)
  have c2_1_7 : w7.cell? ⟨w.heap.size + 1 + 1, 1, none⟩ = some (.int .i64 q) := by rw [cc _ _ (by first | omega | (simp; done) | (simp; omega))]; first | assumption | (simp [go_sem, *]; done)
  have lt3_7 : w2.heap.size < w7.heap.size := by omega
  have c3_0_7 : w7.cell? ⟨w2.heap.size, 0, none⟩ = some (.int .i64 x) := by rw [cc _ _ (by first | omega | (simp; done) | (simp; omega))]; first | assumption | (simp [go_sem, *]; done)
  have c3_1_7 : w7.cell? ⟨w2.heap.size, 1, none⟩ = some (.int .i64 y) := by rw [cc _ _ (by first | omega | (simp; done) | (simp; omega))]; first | assumption | (simp [go_sem, *]; done)
  have lt4_7 : w3.heap.size < w7.heap.size := by omega
  have c4_0_7 : w7.cell? ⟨w3.heap.size, 0, none⟩ = some (.int .i64 x) := by rw [cc _ _ (by first | omega | (simp; done) | (simp; omega))]; first | assumption | (simp [go_sem, *]; done)
  have c4_1_7 : w7.cell? ⟨w3.heap.size, 1, none⟩ = some (.int .i64 y) := by rw [cc _ _ (by first | omega | (simp; done) | (simp; omega))]; first | assumption | (simp [go_sem, *]; done)
  have lt5_7 : w5.heap.size < w7.heap.size := by omega
  have c5_0_7 : w7.cell? ⟨w5.heap.size, 0, none⟩ = some (.int .i64 m) := by rw [cc _ _ (by first | omega | (simp; done) | (simp; omega))]; first | assumption | (simp [go_sem, *]; done)
  have c5_1_7 : w7.cell? ⟨w5.heap.size, 1, none⟩ = some (.int .i64 s) := by rw [cc _ _ (by first | omega | (simp; done) | (simp; omega))]; first | assumption | (simp [go_sem, *]; done)
  clear cc ff hb7 lt0_6 c0_0_6 c0_1_6 lt1_6 c1_0_6 c1_1_6 lt2_6 c2_0_6 c2_1_6 lt3_6 c3_0_6 c3_1_6 lt4_6 c4_0_6 c4_1_6 lt5_6 c5_0_6 c5_1_6
  go_wp2_with fail
  refine (HU.out _).mono ?_; rintro e w8 ⟨rfl, hb8⟩
  obtain ⟨cc, ff⟩ := bcell hb8
  have sz8 : w7.heap.size ≤ w8.heap.size := by have := hb8.size; first | exact this | (simp at this; omega)
  have bw8 : Below w.heap.size w w8 := by
    refine Below.trans ?_ (hb8.mono (by first | omega | (simp; done) | (simp; omega)))
    go_grown
  have lt0_8 : w.heap.size < w8.heap.size := by omega
  have c0_0_8 : w8.cell? ⟨w.heap.size, 0, none⟩ = some (.int .i64 m) := by rw [cc _ _ (by first | omega | (simp; done) | (simp; omega))]; first | assumption | (simp [go_sem, *]; done)
  have c0_1_8 : w8.cell? ⟨w.heap.size, 1, none⟩ = some (.int .i64 s) := by rw [cc _ _ (by first | omega | (simp; done) | (simp; omega))]; first | assumption | (simp [go_sem, *]; done)
  have lt1_8 : w.heap.size + 1 < w8.heap.size := by omega
  have c1_0_8 : w8.cell? ⟨w.heap.size + 1, 0, none⟩ = some (.int .i64 n) := by rw [cc _ _ (by first | omega | (simp; done) | (simp; omega))]; first | assumption | (simp [go_sem, *]; done)
  have c1_1_8 : w8.cell? ⟨w.heap.size + 1, 1, none⟩ = some (.int .i64 t) := by rw [cc _ _ (by first | omega | (simp; done) | (simp; omega))]; first | assumption | (simp [go_sem, *]; done)
  have lt2_8 : w.heap.size + 1 + 1 < w8.heap.size := by omega
  have c2_0_8 : w8.cell? ⟨w.heap.size + 1 + 1, 0, none⟩ = some (.int .i64 p) := by rw [cc _ _ (by first | omega | (simp; done) | (simp; omega))]; first | assumption | (simp [go_sem, *]; done)
  have c2_1_8 : w8.cell? ⟨w.heap.size + 1 + 1, 1, none⟩ = some (.int .i64 q) := by rw [cc _ _ (by first | omega | (simp; done) | (simp; omega))]; first | assumption | (simp [go_sem, *]; done)
  have lt3_8 : w2.heap.size < w8.heap.size := by omega
  have c3_0_8 : w8.cell? ⟨w2.heap.size, 0, none⟩ = some (.int .i64 x) := by rw [cc _ _ (by first | omega | (simp; done) | (simp; omega))]; first | assumption | (simp [go_sem, *]; done)
  have c3_1_8 : w8.cell? ⟨w2.heap.size, 1, none⟩ = some (.int .i64 y) := by rw [cc _ _ (by first | omega | (simp; done) | (simp; omega))]; first | assumption | (simp [go_sem, *]; done)
  have lt4_8 : w3.heap.size < w8.heap.size := by omega
  have c4_0_8 : w8.cell? ⟨w3.heap.size, 0, none⟩ = some (.int .i64 x) := by rw [cc _ _ (by first | omega | (simp; done) | (simp; omega))]; first | assumption | (simp [go_sem, *]; done)
  have c4_1_8 : w8.cell? ⟨w3.heap.size, 1, none⟩ = some (.int .i64 y) := by rw [cc _ _ (by first | omega | (simp; done) | (simp; omega))]; first | assumption | (simp [go_sem, *]; done)
  have lt5_8 : w5.heap.size < w8.heap.size := by omega
  have c5_0_8 : w8.cell? ⟨w5.heap.size, 0, none⟩ = some (.int .i64 m) := by rw [cc _ _ (by first | omega | (simp; done) | (simp; omega))]; first | assumption | (simp [go_sem, *]; done)
  have c5_1_8 : w8.cell? ⟨w5.heap.size, 1, none⟩ = some (.int .i64 s) := by rw [cc _ _ (by first | omega | (simp; done) | (simp; omega))]; first | assumption | (simp [go_sem, *]; done)
  clear cc ff hb8 lt0_7 c0_0_7 c0_1_7 lt1_7 c1_0_7 c1_1_7 lt2_7 c2_0_7 c2_1_7 lt3_7 c3_0_7 c3_1_7 lt4_7 c4_0_7 c4_1_7 lt5_7 c5_0_7 c5_1_7
  go_wp2_with fail
  refine (HM.out _).mono ?_; rintro e w9 ⟨rfl, hb9⟩
  obtain ⟨cc, ff⟩ := bcell hb9
  have sz9 : w8.heap.size + 1 ≤ w9.heap.size := by have := hb9.size; first | exact this | (simp at this; omega)
  have bw9 : Below w.heap.size w w9 := by
    refine Below.trans ?_ (hb9.mono (by first | omega | (simp; done) | (simp; omega)))
    go_grown
  have lt0_9 : w.heap.size < w9.heap.size := by omega
  have c0_0_9 : w9.cell? ⟨w.heap.size, 0, none⟩ = some (.int .i64 m) := by rw [cc _ _ (by first | omega | (simp; done) | (simp; omega))]; first | assumption | (simp [go_sem, *]; done)
  have c0_1_9 : w9.cell? ⟨w.heap.size, 1, none⟩ = some (.int .i64 s) := by rw [cc _ _ (by first | omega | (simp; done) | (simp; omega))]; first | assumption | (simp [go_sem, *]; done)
  have lt1_9 : w.heap.size + 1 < w9.heap.size := by omega
  have c1_0_9 : w9.cell? ⟨w.heap.size + 1, 0, none⟩ = some (.int .i64 n) := by rw [cc _ _ (by first | omega | (simp; done) | (simp; omega))]; first | assumption | (simp [go_sem, *]; done)
  have c1_1_9 : w9.cell? ⟨w.heap.size + 1, 1, none⟩ = some (.int .i64 t) := by rw [cc _ _ (by first | omega | (simp; done) | (simp; omega))]; first | assumption | (simp [go_sem, *]; done)
  have lt2_9 : w.heap.size + 1 + 1 < w9.heap.size := by omega
  have c2_0_9 : w9.cell? ⟨w.heap.size + 1 + 1, 0, none⟩ = some (.int .i64 p) := by rw [cc _ _ (by first | omega | (simp; done) | (simp; omega))]; first | assumption | (simp [go_sem, *]; done)
  have c2_1_9 : w9.cell? ⟨w.heap.size + 1 + 1, 1, none⟩ = some (.int .i64 q) := by rw [cc _ _ (by first | omega | (simp; done) | (simp; omega))]; first | assumption | (simp [go_sem, *]; done)
  have lt3_9 : w2.heap.size < w9.heap.size := by omega
  have c3_0_9 : w9.cell? ⟨w2.heap.size, 0, none⟩ = some (.int .i64 x) := by rw [cc _ _ (by first | omega | (simp; done) | (simp; omega))]; first | assumption | (simp [go_sem, *]; done)
  have c3_1_9 : w9.cell? ⟨w2.heap.size, 1, none⟩ = some (.int .i64 y) := by rw [cc _ _ (by first | omega | (simp; done) | (simp; omega))]; first | assumption | (simp [go_sem, *]; done)
  have lt4_9 : w3.heap.size < w9.heap.size := by omega
  have c4_0_9 : w9.cell? ⟨w3.heap.size, 0, none⟩ = some (.int .i64 x) := by rw [cc _ _ (by first | omega | (simp; done) | (simp; omega))]; first | assumption | (simp [go_sem, *]; done)
  have c4_1_9 : w9.cell? ⟨w3.heap.size, 1, none⟩ = some (.int .i64 y) := by rw [cc _ _ (by first | omega | (simp; done) | (simp; omega))]; first | assumption | (simp [go_sem, *]; done)
  have lt5_9 : w5.heap.size < w9.heap.size := by omega
  have c5_0_9 : w9.cell? ⟨w5.heap.size, 0, none⟩ = some (.int .i64 m) := by rw [cc _ _ (by first | omega | (simp; done) | (simp; omega))]; first | assumption | (simp [go_sem, *]; done)
  have c5_1_9 : w9.cell? ⟨w5.heap.size, 1, none⟩ = some (.int .i64 s) := by rw [cc _ _ (by first | omega | (simp; done) | (simp; omega))]; first | assumption | (simp [go_sem, *]; done)
  have lt6_9 : w8.heap.size < w9.heap.size := by omega
  have c6_0_9 : w9.cell? ⟨w8.heap.size, 0, none⟩ = some (.int .i64 u1) := by rw [cc _ _ (by first | omega | (simp; done) | (simp; omega))]; first | assumption | (simp [go_sem, *]; done)
  have c6_1_9 : w9.cell? ⟨w8.heap.size, 1, none⟩ = some (.int .i64 u2) := by rw [cc _ _ (by first | omega | (simp; done) | (simp; omega))]; first | assumption | (simp [go_sem, *]; done)
  clear cc ff hb9 lt0_8 c0_0_8 c0_1_8 lt1_8 c1_0_8 c1_1_8 lt2_8 c2_0_8 c2_1_8 lt3_8 c3_0_8 c3_1_8 lt4_8 c4_0_8 c4_1_8 lt5_8 c5_0_8 c5_1_8
  go_wp2_with fail
  go_ret
  refine ⟨rfl, ?_⟩
  go_grown
set_option maxRecDepth 100000 in
set_option maxHeartbeats 2000000 in
theorem sums_ibad_mb (m s n t p q x y e0 u1 u2 n1 h i m1 j : Int) (w : World) (he : Env w)
    (HS : Hid (∀ w, Calls Tryd.prog 11 #[.agg #[.int .i64 m, .int .i64 s], .agg #[.int .i64 n, .int .i64 t]] w fun e w' => e = .returned (.tuple #[.agg #[.int .i64 x, .int .i64 y], .int .i64 0]) ∧ Below w.heap.size w w'))
    (HT : Hid (∀ w, Calls Tryd.prog 11 #[.agg #[.int .i64 n, .int .i64 t], .agg #[.int .i64 m, .int .i64 s]] w fun e w' => e = .returned (.tuple #[.agg #[.int .i64 x, .int .i64 y], .int .i64 0]) ∧ Below w.heap.size w w'))
    (HK : Hid (∀ w, Calls Tryd.prog 15 #[.agg #[.int .i64 x, .int .i64 y]] w fun e w' => e = .returned (.int .i64 0) ∧ Below w.heap.size w w'))
    (HZ : Hid (∀ w, Calls Tryd.prog 11 #[.agg #[.int .i64 m, .int .i64 s], .agg #[.int .i64 0, .int .i64 0]] w fun e w' => e = .returned (.tuple #[.agg #[.int .i64 m, .int .i64 s], .int .i64 0]) ∧ Below w.heap.size w w'))
    (HA : Hid (∀ w, Calls Tryd.prog 15 #[.agg #[.int .i64 m, .int .i64 s]] w fun e w' => e = .returned (.int .i64 0) ∧ Below w.heap.size w w'))
    (HN : Hid (∀ w, Calls Tryd.prog 13 #[.agg #[.int .i64 m, .int .i64 s], .agg #[.int .i64 p, .int .i64 q]] w fun e w' => e = .returned (.tuple #[.int .i64 n1, .int .i64 0]) ∧ Below w.heap.size w w'))
    (HU : Hid (∀ w, Calls Tryd.prog 11 #[.agg #[.int .i64 p, .int .i64 q], .agg #[.int .i64 n, .int .i64 t]] w fun e w' => e = .returned (.tuple #[.agg #[.int .i64 u1, .int .i64 u2], .int .i64 i]) ∧ Below w.heap.size w w'))
    (hi0 : (i == 0) = false)
    (HM : Hid (∀ w, Calls Tryd.prog 13 #[.agg #[.int .i64 x, .int .i64 y], .agg #[.int .i64 u1, .int .i64 u2]] w fun e w' => e = .returned (.tuple #[.int .i64 m1, .int .i64 j]) ∧ Below w.heap.size w w'))
    (hy1 : (m == -9223372036854775808) = false) (hy2 : (n == -9223372036854775808) = true) :
    Calls Tryd.prog 8 #[.agg #[.int .i64 m, .int .i64 s], .agg #[.int .i64 n, .int .i64 t], .agg #[.int .i64 p, .int .i64 q]] w fun e w' => e = .returned (.bool true) ∧ Below w.heap.size w w' := by
  have HL := Lib.hid (fun w he => alive_true w he)
  go_enter Tryd.func8, Tryd.ntmps8
  go_wp2_with fail
  refine (HL.out _ (he.stays (by go_grown))).mono ?_; rintro e w1 ⟨rfl, hb1⟩
  obtain ⟨cc, ff⟩ := bcell hb1
  have sz1 : w.heap.size + 1 + 1 + 1 ≤ w1.heap.size := by have := hb1.size; first | exact this | (simp at this; omega)
  have bw1 : Below w.heap.size w w1 := by
    refine Below.trans ?_ (hb1.mono (by first | omega | (simp; done) | (simp; omega)))
    go_grown
  have lt0_1 : w.heap.size < w1.heap.size := by omega
  have c0_0_1 : w1.cell? ⟨w.heap.size, 0, none⟩ = some (.int .i64 m) := by rw [cc _ _ (by first | omega | (simp; done) | (simp; omega))]; first | assumption | (simp [go_sem, *]; done)
  have c0_1_1 : w1.cell? ⟨w.heap.size, 1, none⟩ = some (.int .i64 s) := by rw [cc _ _ (by first | omega | (simp; done) | (simp; omega))]; first | assumption | (simp [go_sem, *]; done)
  have lt1_1 : w.heap.size + 1 < w1.heap.size := by omega
  have c1_0_1 : w1.cell? ⟨w.heap.size + 1, 0, none⟩ = some (.int .i64 n) := by rw [cc _ _ (by first | omega | (simp; done) | (simp; omega))]; first | assumption | (simp [go_sem, *]; done)
  have c1_1_1 : w1.cell? ⟨w.heap.size + 1, 1, none⟩ = some (.int .i64 t) := by rw [cc _ _ (by first | omega | (simp; done) | (simp; omega))]; first | assumption | (simp [go_sem, *]; done)
  have lt2_1 : w.heap.size + 1 + 1 < w1.heap.size := by omega
  have c2_0_1 : w1.cell? ⟨w.heap.size + 1 + 1, 0, none⟩ = some (.int .i64 p) := by rw [cc _ _ (by first | omega | (simp; done) | (simp; omega))]; first | assumption | (simp [go_sem, *]; done)
  have c2_1_1 : w1.cell? ⟨w.heap.size + 1 + 1, 1, none⟩ = some (.int .i64 q) := by rw [cc _ _ (by first | omega | (simp; done) | (simp; omega))]; first | assumption | (simp [go_sem, *]; done)
  clear cc ff hb1
  go_wp2_with fail
  refine (HS.out _).mono ?_; rintro e w2 ⟨rfl, hb2⟩
  obtain ⟨cc, ff⟩ := bcell hb2
  have sz2 : w1.heap.size ≤ w2.heap.size := by have := hb2.size; first | exact this | (simp at this; omega)
  have bw2 : Below w.heap.size w w2 := by
    refine Below.trans ?_ (hb2.mono (by first | omega | (simp; done) | (simp; omega)))
    go_grown
  have lt0_2 : w.heap.size < w2.heap.size := by omega
  have c0_0_2 : w2.cell? ⟨w.heap.size, 0, none⟩ = some (.int .i64 m) := by rw [cc _ _ (by first | omega | (simp; done) | (simp; omega))]; first | assumption | (simp [go_sem, *]; done)
  have c0_1_2 : w2.cell? ⟨w.heap.size, 1, none⟩ = some (.int .i64 s) := by rw [cc _ _ (by first | omega | (simp; done) | (simp; omega))]; first | assumption | (simp [go_sem, *]; done)
  have lt1_2 : w.heap.size + 1 < w2.heap.size := by omega
  have c1_0_2 : w2.cell? ⟨w.heap.size + 1, 0, none⟩ = some (.int .i64 n) := by rw [cc _ _ (by first | omega | (simp; done) | (simp; omega))]; first | assumption | (simp [go_sem, *]; done)
  have c1_1_2 : w2.cell? ⟨w.heap.size + 1, 1, none⟩ = some (.int .i64 t) := by rw [cc _ _ (by first | omega | (simp; done) | (simp; omega))]; first | assumption | (simp [go_sem, *]; done)
  have lt2_2 : w.heap.size + 1 + 1 < w2.heap.size := by omega
  have c2_0_2 : w2.cell? ⟨w.heap.size + 1 + 1, 0, none⟩ = some (.int .i64 p) := by rw [cc _ _ (by first | omega | (simp; done) | (simp; omega))]; first | assumption | (simp [go_sem, *]; done)
  have c2_1_2 : w2.cell? ⟨w.heap.size + 1 + 1, 1, none⟩ = some (.int .i64 q) := by rw [cc _ _ (by first | omega | (simp; done) | (simp; omega))]; first | assumption | (simp [go_sem, *]; done)
  clear cc ff hb2 lt0_1 c0_0_1 c0_1_1 lt1_1 c1_0_1 c1_1_1 lt2_1 c2_0_1 c2_1_1
  go_wp2_with fail
  refine (HT.out _).mono ?_; rintro e w3 ⟨rfl, hb3⟩
  obtain ⟨cc, ff⟩ := bcell hb3
  have sz3 : w2.heap.size + 1 ≤ w3.heap.size := by have := hb3.size; first | exact this | (simp at this; omega)
  have bw3 : Below w.heap.size w w3 := by
    refine Below.trans ?_ (hb3.mono (by first | omega | (simp; done) | (simp; omega)))
    go_grown
  have lt0_3 : w.heap.size < w3.heap.size := by omega
  have c0_0_3 : w3.cell? ⟨w.heap.size, 0, none⟩ = some (.int .i64 m) := by rw [cc _ _ (by first | omega | (simp; done) | (simp; omega))]; first | assumption | (simp [go_sem, *]; done)
  have c0_1_3 : w3.cell? ⟨w.heap.size, 1, none⟩ = some (.int .i64 s) := by rw [cc _ _ (by first | omega | (simp; done) | (simp; omega))]; first | assumption | (simp [go_sem, *]; done)
  have lt1_3 : w.heap.size + 1 < w3.heap.size := by omega
  have c1_0_3 : w3.cell? ⟨w.heap.size + 1, 0, none⟩ = some (.int .i64 n) := by rw [cc _ _ (by first | omega | (simp; done) | (simp; omega))]; first | assumption | (simp [go_sem, *]; done)
  have c1_1_3 : w3.cell? ⟨w.heap.size + 1, 1, none⟩ = some (.int .i64 t) := by rw [cc _ _ (by first | omega | (simp; done) | (simp; omega))]; first | assumption | (simp [go_sem, *]; done)
  have lt2_3 : w.heap.size + 1 + 1 < w3.heap.size := by omega
  have c2_0_3 : w3.cell? ⟨w.heap.size + 1 + 1, 0, none⟩ = some (.int .i64 p) := by rw [cc _ _ (by first | omega | (simp; done) | (simp; omega))]; first | assumption | (simp [go_sem, *]; done)
  have c2_1_3 : w3.cell? ⟨w.heap.size + 1 + 1, 1, none⟩ = some (.int .i64 q) := by rw [cc _ _ (by first | omega | (simp; done) | (simp; omega))]; first | assumption | (simp [go_sem, *]; done)
  have lt3_3 : w2.heap.size < w3.heap.size := by omega
  have c3_0_3 : w3.cell? ⟨w2.heap.size, 0, none⟩ = some (.int .i64 x) := by rw [cc _ _ (by first | omega | (simp; done) | (simp; omega))]; first | assumption | (simp [go_sem, *]; done)
  have c3_1_3 : w3.cell? ⟨w2.heap.size, 1, none⟩ = some (.int .i64 y) := by rw [cc _ _ (by first | omega | (simp; done) | (simp; omega))]; first | assumption | (simp [go_sem, *]; done)
  clear cc ff hb3 lt0_2 c0_0_2 c0_1_2 lt1_2 c1_0_2 c1_1_2 lt2_2 c2_0_2 c2_1_2
  go_wp2_with fail
  refine (HK.out _).mono ?_; rintro e w4 ⟨rfl, hb4⟩
  obtain ⟨cc, ff⟩ := bcell hb4
  have sz4 : w3.heap.size + 1 ≤ w4.heap.size := by have := hb4.size; first | exact this | (simp at this; omega)
  have bw4 : Below w.heap.size w w4 := by
    refine Below.trans ?_ (hb4.mono (by first | omega | (simp; done) | (simp; omega)))
    go_grown
  have lt0_4 : w.heap.size < w4.heap.size := by omega
  have c0_0_4 : w4.cell? ⟨w.heap.size, 0, none⟩ = some (.int .i64 m) := by rw [cc _ _ (by first | omega | (simp; done) | (simp; omega))]; first | assumption | (simp [go_sem, *]; done)
  have c0_1_4 : w4.cell? ⟨w.heap.size, 1, none⟩ = some (.int .i64 s) := by rw [cc _ _ (by first | omega | (simp; done) | (simp; omega))]; first | assumption | (simp [go_sem, *]; done)
  have lt1_4 : w.heap.size + 1 < w4.heap.size := by omega
  have c1_0_4 : w4.cell? ⟨w.heap.size + 1, 0, none⟩ = some (.int .i64 n) := by rw [cc _ _ (by first | omega | (simp; done) | (simp; omega))]; first | assumption | (simp [go_sem, *]; done)
  have c1_1_4 : w4.cell? ⟨w.heap.size + 1, 1, none⟩ = some (.int .i64 t) := by rw [cc _ _ (by first | omega | (simp; done) | (simp; omega))]; first | assumption | (simp [go_sem, *]; done)
  have lt2_4 : w.heap.size + 1 + 1 < w4.heap.size := by omega
  have c2_0_4 : w4.cell? ⟨w.heap.size + 1 + 1, 0, none⟩ = some (.int .i64 p) := by rw [cc _ _ (by first | omega | (simp; done) | (simp; omega))]; first | assumption | (simp [go_sem, *]; done)
  have c2_1_4 : w4.cell? ⟨w.heap.size + 1 + 1, 1, none⟩ = some (.int .i64 q) := by rw [cc _ _ (by first | omega | (simp; done) | (simp; omega))]; first | assumption | (simp [go_sem, *]; done)
  have lt3_4 : w2.heap.size < w4.heap.size := by omega
  have c3_0_4 : w4.cell? ⟨w2.heap.size, 0, none⟩ = some (.int .i64 x) := by rw [cc _ _ (by first | omega | (simp; done) | (simp; omega))]; first | assumption | (simp [go_sem, *]; done)
  have c3_1_4 : w4.cell? ⟨w2.heap.size, 1, none⟩ = some (.int .i64 y) := by rw [cc _ _ (by first | omega | (simp; done) | (simp; omega))]; first | assumption | (simp [go_sem, *]; done)
  have lt4_4 : w3.heap.size < w4.heap.size := by omega
  have c4_0_4 : w4.cell? ⟨w3.heap.size, 0, none⟩ = some (.int .i64 x) := by rw [cc _ _ (by first | omega | (simp; done) | (simp; omega))]; first | assumption | (simp [go_sem, *]; done)
  have c4_1_4 : w4.cell? ⟨w3.heap.size, 1, none⟩ = some (.int .i64 y) := by rw [cc _ _ (by first | omega | (simp; done) | (simp; omega))]; first | assumption | (simp [go_sem, *]; done)
  clear cc ff hb4 lt0_3 c0_0_3 c0_1_3 lt1_3 c1_0_3 c1_1_3 lt2_3 c2_0_3 c2_1_3 lt3_3 c3_0_3 c3_1_3
  go_wp2_with fail
  refine (HZ.out _).mono ?_; rintro e w5 ⟨rfl, hb5⟩
  obtain ⟨cc, ff⟩ := bcell hb5
  have sz5 : w4.heap.size ≤ w5.heap.size := by have := hb5.size; first | exact this | (simp at this; omega)
  have bw5 : Below w.heap.size w w5 := by
    refine Below.trans ?_ (hb5.mono (by first | omega | (simp; done) | (simp; omega)))
    go_grown
  have lt0_5 : w.heap.size < w5.heap.size := by omega
  have c0_0_5 : w5.cell? ⟨w.heap.size, 0, none⟩ = some (.int .i64 m) := by rw [cc _ _ (by first | omega | (simp; done) | (simp; omega))]; first | assumption | (simp [go_sem, *]; done)
  have c0_1_5 : w5.cell? ⟨w.heap.size, 1, none⟩ = some (.int .i64 s) := by rw [cc _ _ (by first | omega | (simp; done) | (simp; omega))]; first | assumption | (simp [go_sem, *]; done)
  have lt1_5 : w.heap.size + 1 < w5.heap.size := by omega
  have c1_0_5 : w5.cell? ⟨w.heap.size + 1, 0, none⟩ = some (.int .i64 n) := by rw [cc _ _ (by first | omega | (simp; done) | (simp; omega))]; first | assumption | (simp [go_sem, *]; done)
  have c1_1_5 : w5.cell? ⟨w.heap.size + 1, 1, none⟩ = some (.int .i64 t) := by rw [cc _ _ (by first | omega | (simp; done) | (simp; omega))]; first | assumption | (simp [go_sem, *]; done)
  have lt2_5 : w.heap.size + 1 + 1 < w5.heap.size := by omega
  have c2_0_5 : w5.cell? ⟨w.heap.size + 1 + 1, 0, none⟩ = some (.int .i64 p) := by rw [cc _ _ (by first | omega | (simp; done) | (simp; omega))]; first | assumption | (simp [go_sem, *]; done)
  have c2_1_5 : w5.cell? ⟨w.heap.size + 1 + 1, 1, none⟩ = some (.int .i64 q) := by rw [cc _ _ (by first | omega | (simp; done) | (simp; omega))]; first | assumption | (simp [go_sem, *]; done)
  have lt3_5 : w2.heap.size < w5.heap.size := by omega
  have c3_0_5 : w5.cell? ⟨w2.heap.size, 0, none⟩ = some (.int .i64 x) := by rw [cc _ _ (by first | omega | (simp; done) | (simp; omega))]; first | assumption | (simp [go_sem, *]; done)
  have c3_1_5 : w5.cell? ⟨w2.heap.size, 1, none⟩ = some (.int .i64 y) := by rw [cc _ _ (by first | omega | (simp; done) | (simp; omega))]; first | assumption | (simp [go_sem, *]; done)
  have lt4_5 : w3.heap.size < w5.heap.size := by omega
  have c4_0_5 : w5.cell? ⟨w3.heap.size, 0, none⟩ = some (.int .i64 x) := by rw [cc _ _ (by first | omega | (simp; done) | (simp; omega))]; first | assumption | (simp [go_sem, *]; done)
  have c4_1_5 : w5.cell? ⟨w3.heap.size, 1, none⟩ = some (.int .i64 y) := by rw [cc _ _ (by first | omega | (simp; done) | (simp; omega))]; first | assumption | (simp [go_sem, *]; done)
  clear cc ff hb5 lt0_4 c0_0_4 c0_1_4 lt1_4 c1_0_4 c1_1_4 lt2_4 c2_0_4 c2_1_4 lt3_4 c3_0_4 c3_1_4 lt4_4 c4_0_4 c4_1_4
  go_wp2_with fail
  refine (HA.out _).mono ?_; rintro e w6 ⟨rfl, hb6⟩
  obtain ⟨cc, ff⟩ := bcell hb6
  have sz6 : w5.heap.size + 1 ≤ w6.heap.size := by have := hb6.size; first | exact this | (simp at this; omega)
  have bw6 : Below w.heap.size w w6 := by
    refine Below.trans ?_ (hb6.mono (by first | omega | (simp; done) | (simp; omega)))
    go_grown
  have lt0_6 : w.heap.size < w6.heap.size := by omega
  have c0_0_6 : w6.cell? ⟨w.heap.size, 0, none⟩ = some (.int .i64 m) := by rw [cc _ _ (by first | omega | (simp; done) | (simp; omega))]; first | assumption | (simp [go_sem, *]; done)
  have c0_1_6 : w6.cell? ⟨w.heap.size, 1, none⟩ = some (.int .i64 s) := by rw [cc _ _ (by first | omega | (simp; done) | (simp; omega))]; first | assumption | (simp [go_sem, *]; done)
  have lt1_6 : w.heap.size + 1 < w6.heap.size := by omega
  have c1_0_6 : w6.cell? ⟨w.heap.size + 1, 0, none⟩ = some (.int .i64 n) := by rw [cc _ _ (by first | omega | (simp; done) | (simp; omega))]; first | assumption | (simp [go_sem, *]; done)
  have c1_1_6 : w6.cell? ⟨w.heap.size + 1, 1, none⟩ = some (.int .i64 t) := by rw [cc _ _ (by first | omega | (simp; done) | (simp; omega))]; first | assumption | (simp [go_sem, *]; done)
  have lt2_6 : w.heap.size + 1 + 1 < w6.heap.size := by omega
  have c2_0_6 : w6.cell? ⟨w.heap.size + 1 + 1, 0, none⟩ = some (.int .i64 p) := by rw [cc _ _ (by first | omega | (simp; done) | (simp; omega))]; first | assumption | (simp [go_sem, *]; done)
  have c2_1_6 : w6.cell? ⟨w.heap.size + 1 + 1, 1, none⟩ = some (.int .i64 q) := by rw [cc _ _ (by first | omega | (simp; done) | (simp; omega))]; first | assumption | (simp [go_sem, *]; done)
  have lt3_6 : w2.heap.size < w6.heap.size := by omega
  have c3_0_6 : w6.cell? ⟨w2.heap.size, 0, none⟩ = some (.int .i64 x) := by rw [cc _ _ (by first | omega | (simp; done) | (simp; omega))]; first | assumption | (simp [go_sem, *]; done)
  have c3_1_6 : w6.cell? ⟨w2.heap.size, 1, none⟩ = some (.int .i64 y) := by rw [cc _ _ (by first | omega | (simp; done) | (simp; omega))]; first | assumption | (simp [go_sem, *]; done)
  have lt4_6 : w3.heap.size < w6.heap.size := by omega
  have c4_0_6 : w6.cell? ⟨w3.heap.size, 0, none⟩ = some (.int .i64 x) := by rw [cc _ _ (by first | omega | (simp; done) | (simp; omega))]; first | assumption | (simp [go_sem, *]; done)
  have c4_1_6 : w6.cell? ⟨w3.heap.size, 1, none⟩ = some (.int .i64 y) := by rw [cc _ _ (by first | omega | (simp; done) | (simp; omega))]; first | assumption | (simp [go_sem, *]; done)
  have lt5_6 : w5.heap.size < w6.heap.size := by omega
  have c5_0_6 : w6.cell? ⟨w5.heap.size, 0, none⟩ = some (.int .i64 m) := by rw [cc _ _ (by first | omega | (simp; done) | (simp; omega))]; first | assumption | (simp [go_sem, *]; done)
  have c5_1_6 : w6.cell? ⟨w5.heap.size, 1, none⟩ = some (.int .i64 s) := by rw [cc _ _ (by first | omega | (simp; done) | (simp; omega))]; first | assumption | (simp [go_sem, *]; done)
  clear cc ff hb6 lt0_5 c0_0_5 c0_1_5 lt1_5 c1_0_5 c1_1_5 lt2_5 c2_0_5 c2_1_5 lt3_5 c3_0_5 c3_1_5 lt4_5 c4_0_5 c4_1_5
  go_wp2_with fail
  refine (HN.out _).mono ?_; rintro e w7 ⟨rfl, hb7⟩
  obtain ⟨cc, ff⟩ := bcell hb7
  have sz7 : w6.heap.size ≤ w7.heap.size := by have := hb7.size; first | exact this | (simp at this; omega)
  have bw7 : Below w.heap.size w w7 := by
    refine Below.trans ?_ (hb7.mono (by first | omega | (simp; done) | (simp; omega)))
    go_grown
  have lt0_7 : w.heap.size < w7.heap.size := by omega
  have c0_0_7 : w7.cell? ⟨w.heap.size, 0, none⟩ = some (.int .i64 m) := by rw [cc _ _ (by first | omega | (simp; done) | (simp; omega))]; first | assumption | (simp [go_sem, *]; done)
  have c0_1_7 : w7.cell? ⟨w.heap.size, 1, none⟩ = some (.int .i64 s) := by rw [cc _ _ (by first | omega | (simp; done) | (simp; omega))]; first | assumption | (simp [go_sem, *]; done)
  have lt1_7 : w.heap.size + 1 < w7.heap.size := by omega
  have c1_0_7 : w7.cell? ⟨w.heap.size + 1, 0, none⟩ = some (.int .i64 n) := by rw [cc _ _ (by first | omega | (simp; done) | (simp; omega))]; first | assumption | (simp [go_sem, *]; done)
  have c1_1_7 : w7.cell? ⟨w.heap.size + 1, 1, none⟩ = some (.int .i64 t) := by rw [cc _ _ (by first | omega | (simp; done) | (simp; omega))]; first | assumption | (simp [go_sem, *]; done)
  have lt2_7 : w.heap.size + 1 + 1 < w7.heap.size := by omega
  have c2_0_7 : w7.cell? ⟨w.heap.size + 1 + 1, 0, none⟩ = some (.int .i64 p) := by rw [cc _ _ (by first | omega | (simp; done) | (simp; omega))]; first | assumption | (simp [go_sem, *]; done)
  have c2_1_7 : w7.cell? ⟨w.heap.size + 1 + 1, 1, none⟩ = some (.int .i64 q) := by rw [cc _ _ (by first | omega | (simp; done) | (simp; omega))]; first | assumption | (simp [go_sem, *]; done)
  have lt3_7 : w2.heap.size < w7.heap.size := by omega
  have c3_0_7 : w7.cell? ⟨w2.heap.size, 0, none⟩ = some (.int .i64 x) := by rw [cc _ _ (by first | omega | (simp; done) | (simp; omega))]; first | assumption | (simp [go_sem, *]; done)
  have c3_1_7 : w7.cell? ⟨w2.heap.size, 1, none⟩ = some (.int .i64 y) := by rw [cc _ _ (by first | omega | (simp; done) | (simp; omega))]; first | assumption | (simp [go_sem, *]; done)
  have lt4_7 : w3.heap.size < w7.heap.size := by omega
  have c4_0_7 : w7.cell? ⟨w3.heap.size, 0, none⟩ = some (.int .i64 x) := by rw [cc _ _ (by first | omega | (simp; done) | (simp; omega))]; first | assumption | (simp [go_sem, *]; done)
  have c4_1_7 : w7.cell? ⟨w3.heap.size, 1, none⟩ = some (.int .i64 y) := by rw [cc _ _ (by first | omega | (simp; done) | (simp; omega))]; first | assumption | (simp [go_sem, *]; done)
  have lt5_7 : w5.heap.size < w7.heap.size := by omega
  have c5_0_7 : w7.cell? ⟨w5.heap.size, 0, none⟩ = some (.int .i64 m) := by rw [cc _ _ (by first | omega | (simp; done) | (simp; omega))]; first | assumption | (simp [go_sem, *]; done)
  have c5_1_7 : w7.cell? ⟨w5.heap.size, 1, none⟩ = some (.int .i64 s) := by rw [cc _ _ (by first | omega | (simp; done) | (simp; omega))]; first | assumption | (simp [go_sem, *]; done)
  clear cc ff hb7 lt0_6 c0_0_6 c0_1_6 lt1_6 c1_0_6 c1_1_6 lt2_6 c2_0_6 c2_1_6 lt3_6 c3_0_6 c3_1_6 lt4_6 c4_0_6 c4_1_6 lt5_6 c5_0_6 c5_1_6
  go_wp2_with fail
  refine (HU.out _).mono ?_; rintro e w8 ⟨rfl, hb8⟩
  obtain ⟨cc, ff⟩ := bcell hb8
  have sz8 : w7.heap.size ≤ w8.heap.size := by have := hb8.size; first | exact this | (simp at this; omega)
  have bw8 : Below w.heap.size w w8 := by
    refine Below.trans ?_ (hb8.mono (by first | omega | (simp; done) | (simp; omega)))
    go_grown
  have lt0_8 : w.heap.size < w8.heap.size := by omega
  have c0_0_8 : w8.cell? ⟨w.heap.size, 0, none⟩ = some (.int .i64 m) := by rw [cc _ _ (by first | omega | (simp; done) | (simp; omega))]; first | assumption | (simp [go_sem, *]; done)
  have c0_1_8 : w8.cell? ⟨w.heap.size, 1, none⟩ = some (.int .i64 s) := by rw [cc _ _ (by first | omega | (simp; done) | (simp; omega))]; first | assumption | (simp [go_sem, *]; done)
  have lt1_8 : w.heap.size + 1 < w8.heap.size := by omega
  have c1_0_8 : w8.cell? ⟨w.heap.size + 1, 0, none⟩ = some (.int .i64 n) := by rw [cc _ _ (by first | omega | (simp; done) | (simp; omega))]; first | assumption | (simp [go_sem, *]; done)
  have c1_1_8 : w8.cell? ⟨w.heap.size + 1, 1, none⟩ = some (.int .i64 t) := by rw [cc _ _ (by first | omega | (simp; done) | (simp; omega))]; first | assumption | (simp [go_sem, *]; done)
  have lt2_8 : w.heap.size + 1 + 1 < w8.heap.size := by omega
  have c2_0_8 : w8.cell? ⟨w.heap.size + 1 + 1, 0, none⟩ = some (.int .i64 p) := by rw [cc _ _ (by first | omega | (simp; done) | (simp; omega))]; first | assumption | (simp [go_sem, *]; done)
  have c2_1_8 : w8.cell? ⟨w.heap.size + 1 + 1, 1, none⟩ = some (.int .i64 q) := by rw [cc _ _ (by first | omega | (simp; done) | (simp; omega))]; first | assumption | (simp [go_sem, *]; done)
  have lt3_8 : w2.heap.size < w8.heap.size := by omega
  have c3_0_8 : w8.cell? ⟨w2.heap.size, 0, none⟩ = some (.int .i64 x) := by rw [cc _ _ (by first | omega | (simp; done) | (simp; omega))]; first | assumption | (simp [go_sem, *]; done)
  have c3_1_8 : w8.cell? ⟨w2.heap.size, 1, none⟩ = some (.int .i64 y) := by rw [cc _ _ (by first | omega | (simp; done) | (simp; omega))]; first | assumption | (simp [go_sem, *]; done)
  have lt4_8 : w3.heap.size < w8.heap.size := by omega
  have c4_0_8 : w8.cell? ⟨w3.heap.size, 0, none⟩ = some (.int .i64 x) := by rw [cc _ _ (by first | omega | (simp; done) | (simp; omega))]; first | assumption | (simp [go_sem, *]; done)
  have c4_1_8 : w8.cell? ⟨w3.heap.size, 1, none⟩ = some (.int .i64 y) := by rw [cc _ _ (by first | omega | (simp; done) | (simp; omega))]; first | assumption | (simp [go_sem, *]; done)
  have lt5_8 : w5.heap.size < w8.heap.size := by omega
  have c5_0_8 : w8.cell? ⟨w5.heap.size, 0, none⟩ = some (.int .i64 m) := by rw [cc _ _ (by first | omega | (simp; done) | (simp; omega))]; first | assumption | (simp [go_sem, *]; done)
  have c5_1_8 : w8.cell? ⟨w5.heap.size, 1, none⟩ = some (.int .i64 s) := by rw [cc _ _ (by first | omega | (simp; done) | (simp; omega))]; first | assumption | (simp [go_sem, *]; done)
  clear cc ff hb8 lt0_7 c0_0_7 c0_1_7 lt1_7 c1_0_7 c1_1_7 lt2_7 c2_0_7 c2_1_7 lt3_7 c3_0_7 c3_1_7 lt4_7 c4_0_7 c4_1_7 lt5_7 c5_0_7 c5_1_7
  go_wp2_with fail
  refine (HM.out _).mono ?_; rintro e w9 ⟨rfl, hb9⟩
  obtain ⟨cc, ff⟩ := bcell hb9
  have sz9 : w8.heap.size + 1 ≤ w9.heap.size := by have := hb9.size; first | exact this | (simp at this; omega)
  have bw9 : Below w.heap.size w w9 := by
    refine Below.trans ?_ (hb9.mono (by first | omega | (simp; done) | (simp; omega)))
    go_grown
  have lt0_9 : w.heap.size < w9.heap.size := by omega
  have c0_0_9 : w9.cell? ⟨w.heap.size, 0, none⟩ = some (.int .i64 m) := by rw [cc _ _ (by first | omega | (simp; done) | (simp; omega))]; first | assumption | (simp [go_sem, *]; done)
  have c0_1_9 : w9.cell? ⟨w.heap.size, 1, none⟩ = some (.int .i64 s) := by rw [cc _ _ (by first | omega | (simp; done) | (simp; omega))]; first | assumption | (simp [go_sem, *]; done)
  have lt1_9 : w.heap.size + 1 < w9.heap.size := by omega
  have c1_0_9 : w9.cell? ⟨w.heap.size + 1, 0, none⟩ = some (.int .i64 n) := by rw [cc _ _ (by first | omega | (simp; done) | (simp; omega))]; first | assumption | (simp [go_sem, *]; done)
  have c1_1_9 : w9.cell? ⟨w.heap.size + 1, 1, none⟩ = some (.int .i64 t) := by rw [cc _ _ (by first | omega | (simp; done) | (simp; omega))]; first | assumption | (simp [go_sem, *]; done)
  have lt2_9 : w.heap.size + 1 + 1 < w9.heap.size := by omega
  have c2_0_9 : w9.cell? ⟨w.heap.size + 1 + 1, 0, none⟩ = some (.int .i64 p) := by rw [cc _ _ (by first | omega | (simp; done) | (simp; omega))]; first | assumption | (simp [go_sem, *]; done)
  have c2_1_9 : w9.cell? ⟨w.heap.size + 1 + 1, 1, none⟩ = some (.int .i64 q) := by rw [cc _ _ (by first | omega | (simp; done) | (simp; omega))]; first | assumption | (simp [go_sem, *]; done)
  have lt3_9 : w2.heap.size < w9.heap.size := by omega
  have c3_0_9 : w9.cell? ⟨w2.heap.size, 0, none⟩ = some (.int .i64 x) := by rw [cc _ _ (by first | omega | (simp; done) | (simp; omega))]; first | assumption | (simp [go_sem, *]; done)
  have c3_1_9 : w9.cell? ⟨w2.heap.size, 1, none⟩ = some (.int .i64 y) := by rw [cc _ _ (by first | omega | (simp; done) | (simp; omega))]; first | assumption | (simp [go_sem, *]; done)
  have lt4_9 : w3.heap.size < w9.heap.size := by omega
  have c4_0_9 : w9.cell? ⟨w3.heap.size, 0, none⟩ = some (.int .i64 x) := by rw [cc _ _ (by first | omega | (simp; done) | (simp; omega))]; first | assumption | (simp [go_sem, *]; done)
  have c4_1_9 : w9.cell? ⟨w3.heap.size, 1, none⟩ = some (.int .i64 y) := by rw [cc _ _ (by first | omega | (simp; done) | (simp; omega))]; first | assumption | (simp [go_sem, *]; done)
  have lt5_9 : w5.heap.size < w9.heap.size := by omega
  have c5_0_9 : w9.cell? ⟨w5.heap.size, 0, none⟩ = some (.int .i64 m) := by rw [cc _ _ (by first | omega | (simp; done) | (simp; omega))]; first | assumption | (simp [go_sem, *]; done)
  have c5_1_9 : w9.cell? ⟨w5.heap.size, 1, none⟩ = some (.int .i64 s) := by rw [cc _ _ (by first | omega | (simp; done) | (simp; omega))]; first | assumption | (simp [go_sem, *]; done)
  have lt6_9 : w8.heap.size < w9.heap.size := by omega
  have c6_0_9 : w9.cell? ⟨w8.heap.size, 0, none⟩ = some (.int .i64 u1) := by rw [cc _ _ (by first | omega | (simp; done) | (simp; omega))]; first | assumption | (simp [go_sem, *]; done)
  have c6_1_9 : w9.cell? ⟨w8.heap.size, 1, none⟩ = some (.int .i64 u2) := by rw [cc _ _ (by first | omega | (simp; done) | (simp; omega))]; first | assumption | (simp [go_sem, *]; done)
  clear cc ff hb9 lt0_8 c0_0_8 c0_1_8 lt1_8 c1_0_8 c1_1_8 lt2_8 c2_0_8 c2_1_8 lt3_8 c3_0_8 c3_1_8 lt4_8 c4_0_8 c4_1_8 lt5_8 c5_0_8 c5_1_8
  go_wp2_with fail
  go_ret
  refine ⟨rfl, ?_⟩
  go_grown
set_option maxRecDepth 100000 in
set_option maxHeartbeats 2000000 in
theorem sums_ibad_ms (m s n t p q x y e0 u1 u2 n1 h i m1 j : Int) (w : World) (he : Env w)
    (HS : Hid (∀ w, Calls Tryd.prog 11 #[.agg #[.int .i64 m, .int .i64 s], .agg #[.int .i64 n, .int .i64 t]] w fun e w' => e = .returned (.tuple #[.agg #[.int .i64 x, .int .i64 y], .int .i64 0]) ∧ Below w.heap.size w w'))
    (HT : Hid (∀ w, Calls Tryd.prog 11 #[.agg #[.int .i64 n, .int .i64 t], .agg #[.int .i64 m, .int .i64 s]] w fun e w' => e = .returned (.tuple #[.agg #[.int .i64 x, .int .i64 y], .int .i64 0]) ∧ Below w.heap.size w w'))
    (HK : Hid (∀ w, Calls Tryd.prog 15 #[.agg #[.int .i64 x, .int .i64 y]] w fun e w' => e = .returned (.int .i64 0) ∧ Below w.heap.size w w'))
    (HZ : Hid (∀ w, Calls Tryd.prog 11 #[.agg #[.int .i64 m, .int .i64 s], .agg #[.int .i64 0, .int .i64 0]] w fun e w' => e = .returned (.tuple #[.agg #[.int .i64 m, .int .i64 s], .int .i64 0]) ∧ Below w.heap.size w w'))
    (HA : Hid (∀ w, Calls Tryd.prog 15 #[.agg #[.int .i64 m, .int .i64 s]] w fun e w' => e = .returned (.int .i64 0) ∧ Below w.heap.size w w'))
    (HN : Hid (∀ w, Calls Tryd.prog 13 #[.agg #[.int .i64 m, .int .i64 s], .agg #[.int .i64 p, .int .i64 q]] w fun e w' => e = .returned (.tuple #[.int .i64 n1, .int .i64 0]) ∧ Below w.heap.size w w'))
    (HU : Hid (∀ w, Calls Tryd.prog 11 #[.agg #[.int .i64 p, .int .i64 q], .agg #[.int .i64 n, .int .i64 t]] w fun e w' => e = .returned (.tuple #[.agg #[.int .i64 u1, .int .i64 u2], .int .i64 i]) ∧ Below w.heap.size w w'))
    (hi0 : (i == 0) = false)
    (HM : Hid (∀ w, Calls Tryd.prog 13 #[.agg #[.int .i64 x, .int .i64 y], .agg #[.int .i64 u1, .int .i64 u2]] w fun e w' => e = .returned (.tuple #[.int .i64 m1, .int .i64 j]) ∧ Below w.heap.size w w'))
    (hy1 : (m == -9223372036854775808) = false) (hy2 : (n == -9223372036854775808) = false) (hy3 : (x == -9223372036854775808) = true) :
    Calls Tryd.prog 8 #[.agg #[.int .i64 m, .int .i64 s], .agg #[.int .i64 n, .int .i64 t], .agg #[.int .i64 p, .int .i64 q]] w fun e w' => e = .returned (.bool true) ∧ Below w.heap.size w w' := by
  have HL := Lib.hid (fun w he => alive_true w he)
  go_enter Tryd.func8, Tryd.ntmps8
  go_wp2_with fail
  refine (HL.out _ (he.stays (by go_grown))).mono ?_; rintro e w1 ⟨rfl, hb1⟩
  obtain ⟨cc, ff⟩ := bcell hb1
  have sz1 : w.heap.size + 1 + 1 + 1 ≤ w1.heap.size := by have := hb1.size; first | exact this | (simp at this; omega)
  have bw1 : Below w.heap.size w w1 := by
    refine Below.trans ?_ (hb1.mono (by first | omega | (simp; done) | (simp; omega)))
    go_grown
  have lt0_1 : w.heap.size < w1.heap.size := by omega
  have c0_0_1 : w1.cell? ⟨w.heap.size, 0, none⟩ = some (.int .i64 m) := by rw [cc _ _ (by first | omega | (simp; done) | (simp; omega))]; first | assumption | (simp [go_sem, *]; done)
  have c0_1_1 : w1.cell? ⟨w.heap.size, 1, none⟩ = some (.int .i64 s) := by rw [cc _ _ (by first | omega | (simp; done) | (simp; omega))]; first | assumption | (simp [go_sem, *]; done)
  have lt1_1 : w.heap.size + 1 < w1.heap.size := by omega
  have c1_0_1 : w1.cell? ⟨w.heap.size + 1, 0, none⟩ = some (.int .i64 n) := by rw [cc _ _ (by first | omega | (simp; done) | (simp; omega))]; first | assumption | (simp [go_sem, *]; done)
  have c1_1_1 : w1.cell? ⟨w.heap.size + 1, 1, none⟩ = some (.int .i64 t) := by rw [cc _ _ (by first | omega | (simp; done) | (simp; omega))]; first | assumption | (simp [go_sem, *]; done)
  have lt2_1 : w.heap.size + 1 + 1 < w1.heap.size := by omega
  have c2_0_1 : w1.cell? ⟨w.heap.size + 1 + 1, 0, none⟩ = some (.int .i64 p) := by rw [cc _ _ (by first | omega | (simp; done) | (simp; omega))]; first | assumption | (simp [go_sem, *]; done)
  have c2_1_1 : w1.cell? ⟨w.heap.size + 1 + 1, 1, none⟩ = some (.int .i64 q) := by rw [cc _ _ (by first | omega | (simp; done) | (simp; omega))]; first | assumption | (simp [go_sem, *]; done)
  clear cc ff hb1
  go_wp2_with fail
  refine (HS.out _).mono ?_; rintro e w2 ⟨rfl, hb2⟩
  obtain ⟨cc, ff⟩ := bcell hb2
  have sz2 : w1.heap.size ≤ w2.heap.size := by have := hb2.size; first | exact this | (simp at this; omega)
  have bw2 : Below w.heap.size w w2 := by
    refine Below.trans ?_ (hb2.mono (by first | omega | (simp; done) | (simp; omega)))
    go_grown
  have lt0_2 : w.heap.size < w2.heap.size := by omega
  have c0_0_2 : w2.cell? ⟨w.heap.size, 0, none⟩ = some (.int .i64 m) := by rw [cc _ _ (by first | omega | (simp; done) | (simp; omega))]; first | assumption | (simp [go_sem, *]; done)
  have c0_1_2 : w2.cell? ⟨w.heap.size, 1, none⟩ = some (.int .i64 s) := by rw [cc _ _ (by first | omega | (simp; done) | (simp; omega))]; first | assumption | (simp [go_sem, *]; done)
  have lt1_2 : w.heap.size + 1 < w2.heap.size := by omega
  have c1_0_2 : w2.cell? ⟨w.heap.size + 1, 0, none⟩ = some (.int .i64 n) := by rw [cc _ _ (by first | omega | (simp; done) | (simp; omega))]; first | assumption | (simp [go_sem, *]; done)
  have c1_1_2 : w2.cell? ⟨w.heap.size + 1, 1, none⟩ = some (.int .i64 t) := by rw [cc _ _ (by first | omega | (simp; done) | (simp; omega))]; first | assumption | (simp [go_sem, *]; done)
  have lt2_2 : w.heap.size + 1 + 1 < w2.heap.size := by omega
  have c2_0_2 : w2.cell? ⟨w.heap.size + 1 + 1, 0, none⟩ = some (.int .i64 p) := by rw [cc _ _ (by first | omega | (simp; done) | (simp; omega))]; first | assumption | (simp [go_sem, *]; done)
  have c2_1_2 : w2.cell? ⟨w.heap.size + 1 + 1, 1, none⟩ = some (.int .i64 q) := by rw [cc _ _ (by first | omega | (simp; done) | (simp; omega))]; first | assumption | (simp [go_sem, *]; done)
  clear cc ff hb2 lt0_1 c0_0_1 c0_1_1 lt1_1 c1_0_1 c1_1_1 lt2_1 c2_0_1 c2_1_1
  go_wp2_with fail
  refine (HT.out _).mono ?_; rintro e w3 ⟨rfl, hb3⟩
  obtain ⟨cc, ff⟩ := bcell hb3
  have sz3 : w2.heap.size + 1 ≤ w3.heap.size := by have := hb3.size; first | exact this | (simp at this; omega)
  have bw3 : Below w.heap.size w w3 := by
    refine Below.trans ?_ (hb3.mono (by first | omega | (simp; done) | (simp; omega)))
    go_grown
  have lt0_3 : w.heap.size < w3.heap.size := by omega
  have c0_0_3 : w3.cell? ⟨w.heap.size, 0, none⟩ = some (.int .i64 m) := by rw [cc _ _ (by first | omega | (simp; done) | (simp; omega))]; first | assumption | (simp [go_sem, *]; done)
  have c0_1_3 : w3.cell? ⟨w.heap.size, 1, none⟩ = some (.int .i64 s) := by rw [cc _ _ (by first | omega | (simp; done) | (simp; omega))]; first | assumption | (simp [go_sem, *]; done)
  have lt1_3 : w.heap.size + 1 < w3.heap.size := by omega
  have c1_0_3 : w3.cell? ⟨w.heap.size + 1, 0, none⟩ = some (.int .i64 n) := by rw [cc _ _ (by first | omega | (simp; done) | (simp; omega))]; first | assumption | (simp [go_sem, *]; done)
  have c1_1_3 : w3.cell? ⟨w.heap.size + 1, 1, none⟩ = some (.int .i64 t) := by rw [cc _ _ (by first | omega | (simp; done) | (simp; omega))]; first | assumption | (simp [go_sem, *]; done)
  have lt2_3 : w.heap.size + 1 + 1 < w3.heap.size := by omega
  have c2_0_3 : w3.cell? ⟨w.heap.size + 1 + 1, 0, none⟩ = some (.int .i64 p) := by rw [cc _ _ (by first | omega | (simp; done) | (simp; omega))]; first | assumption | (simp [go_sem, *]; done)
  have c2_1_3 : w3.cell? ⟨w.heap.size + 1 + 1, 1, none⟩ = some (.int .i64 q) := by rw [cc _ _ (by first | omega | (simp; done) | (simp; omega))]; first | assumption | (simp [go_sem, *]; done)
  have lt3_3 : w2.heap.size < w3.heap.size := by omega
  have c3_0_3 : w3.cell? ⟨w2.heap.size, 0, none⟩ = some (.int .i64 x) := by rw [cc _ _ (by first | omega | (simp; done) | (simp; omega))]; first | assumption | (simp [go_sem, *]; done)
  have c3_1_3 : w3.cell? ⟨w2.heap.size, 1, none⟩ = some (.int .i64 y) := by rw [cc _ _ (by first | omega | (simp; done) | (simp; omega))]; first | assumption | (simp [go_sem, *]; done)
  clear cc ff hb3 lt0_2 c0_0_2 c0_1_2 lt1_2 c1_0_2 c1_1_2 lt2_2 c2_0_2 c2_1_2
  go_wp2_with fail
  refine (HK.out _).mono ?_; rintro e w4 ⟨rfl, hb4⟩
  obtain ⟨cc, ff⟩ := bcell hb4
  have sz4 : w3.heap.size + 1 ≤ w4.heap.size := by have := hb4.size; first | exact this | (simp at this; omega)
  have bw4 : Below w.heap.size w w4 := by
    refine Below.trans ?_ (hb4.mono (by first | omega | (simp; done) | (simp; omega)))
    go_grown
  have lt0_4 : w.heap.size < w4.heap.size := by omega
  have c0_0_4 : w4.cell? ⟨w.heap.size, 0, none⟩ = some (.int .i64 m) := by rw [cc _ _ (by first | omega | (simp; done) | (simp; omega))]; first | assumption | (simp [go_sem, *]; done)
  have c0_1_4 : w4.cell? ⟨w.heap.size, 1, none⟩ = some (.int .i64 s) := by rw [cc _ _ (by first | omega | (simp; done) | (simp; omega))]; first | assumption | (simp [go_sem, *]; done)
  have lt1_4 : w.heap.size + 1 < w4.heap.size := by omega
  have c1_0_4 : w4.cell? ⟨w.heap.size + 1, 0, none⟩ = some (.int .i64 n) := by rw [cc _ _ (by first | omega | (simp; done) | (simp; omega))]; first | assumption | (simp [go_sem, *]; done)
  have c1_1_4 : w4.cell? ⟨w.heap.size + 1, 1, none⟩ = some (.int .i64 t) := by rw [cc _ _ (by first | omega | (simp; done) | (simp; omega))]; first | assumption | (simp [go_sem, *]; done)
  have lt2_4 : w.heap.size + 1 + 1 < w4.heap.size := by omega
  have c2_0_4 : w4.cell? ⟨w.heap.size + 1 + 1, 0, none⟩ = some (.int .i64 p) := by rw [cc _ _ (by first | omega | (simp; done) | (simp; omega))]; first | assumption | (simp [go_sem, *]; done)
  have c2_1_4 : w4.cell? ⟨w.heap.size + 1 + 1, 1, none⟩ = some (.int .i64 q) := by rw [cc _ _ (by first | omega | (simp; done) | (simp; omega))]; first | assumption | (simp [go_sem, *]; done)
  have lt3_4 : w2.heap.size < w4.heap.size := by omega
  have c3_0_4 : w4.cell? ⟨w2.heap.size, 0, none⟩ = some (.int .i64 x) := by rw [cc _ _ (by first | omega | (simp; done) | (simp; omega))]; first | assumption | (simp [go_sem, *]; done)
  have c3_1_4 : w4.cell? ⟨w2.heap.size, 1, none⟩ = some (.int .i64 y) := by rw [cc _ _ (by first | omega | (simp; done) | (simp; omega))]; first | assumption | (simp [go_sem, *]; done)
  have lt4_4 : w3.heap.size < w4.heap.size := by omega
  have c4_0_4 : w4.cell? ⟨w3.heap.size, 0, none⟩ = some (.int .i64 x) := by rw [cc _ _ (by first | omega | (simp; done) | (simp; omega))]; first | assumption | (simp [go_sem, *]; done)
  have c4_1_4 : w4.cell? ⟨w3.heap.size, 1, none⟩ = some (.int .i64 y) := by rw [cc _ _ (by first | omega | (simp; done) | (simp; omega))]; first | assumption | (simp [go_sem, *]; done)
  clear cc ff hb4 lt0_3 c0_0_3 c0_1_3 lt1_3 c1_0_3 c1_1_3 lt2_3 c2_0_3 c2_1_3 lt3_3 c3_0_3 c3_1_3
  go_wp2_with fail
  refine (HZ.out _).mono ?_; rintro e w5 ⟨rfl, hb5⟩
  obtain ⟨cc, ff⟩ := bcell hb5
  have sz5 : w4.heap.size ≤ w5.heap.size := by have := hb5.size; first | exact this | (simp at this; omega)
  have bw5 : Below w.heap.size w w5 := by
    refine Below.trans ?_ (hb5.mono (by first | omega | (simp; done) | (simp; omega)))
    go_grown
  have lt0_5 : w.heap.size < w5.heap.size := by omega
  have c0_0_5 : w5.cell? ⟨w.heap.size, 0, none⟩ = some (.int .i64 m) := by rw [cc _ _ (by first | omega | (simp; done) | (simp; omega))]; first | assumption | (simp [go_sem, *]; done)
  have c0_1_5 : w5.cell? ⟨w.heap.size, 1, none⟩ = some (.int .i64 s) := by rw [cc _ _ (by first | omega | (simp; done) | (simp; omega))]; first | assumption | (simp [go_sem, *]; done)
  have lt1_5 : w.heap.size + 1 < w5.heap.size := by omega
  have c1_0_5 : w5.cell? ⟨w.heap.size + 1, 0, none⟩ = some (.int .i64 n) := by rw [cc _ _ (by first | omega | (simp; done) | (simp; omega))]; first | assumption | (simp [go_sem, *]; done)
  have c1_1_5 : w5.cell? ⟨w.heap.size + 1, 1, none⟩ = some (.int .i64 t) := by rw [cc _ _ (by first | omega | (simp; done) | (simp; omega))]; first | assumption | (simp [go_sem, *]; done)
  have lt2_5 : w.heap.size + 1 + 1 < w5.heap.size := by omega
  have c2_0_5 : w5.cell? ⟨w.heap.size + 1 + 1, 0, none⟩ = some (.int .i64 p) := by rw [cc _ _ (by first | omega | (simp; done) | (simp; omega))]; first | assumption | (simp [go_sem, *]; done)
  have c2_1_5 : w5.cell? ⟨w.heap.size + 1 + 1, 1, none⟩ = some (.int .i64 q) := by rw [cc _ _ (by first | omega | (simp; done) | (simp; omega))]; first | assumption | (simp [go_sem, *]; done)
  have lt3_5 : w2.heap.size < w5.heap.size := by omega
  have c3_0_5 : w5.cell? ⟨w2.heap.size, 0, none⟩ = some (.int .i64 x) := by rw [cc _ _ (by first | omega | (simp; done) | (simp; omega))]; first | assumption | (simp [go_sem, *]; done)
  have c3_1_5 : w5.cell? ⟨w2.heap.size, 1, none⟩ = some (.int .i64 y) := by rw [cc _ _ (by first | omega | (simp; done) | (simp; omega))]; first | assumption | (simp [go_sem, *]; done)
  have lt4_5 : w3.heap.size < w5.heap.size := by omega
  have c4_0_5 : w5.cell? ⟨w3.heap.size, 0, none⟩ = some (.int .i64 x) := by rw [cc _ _ (by first | omega | (simp; done) | (simp; omega))]; first | assumption | (simp [go_sem, *]; done)
  have c4_1_5 : w5.cell? ⟨w3.heap.size, 1, none⟩ = some (.int .i64 y) := by rw [cc _ _ (by first | omega | (simp; done) | (simp; omega))]; first | assumption | (simp [go_sem, *]; done)
  clear cc ff hb5 lt0_4 c0_0_4 c0_1_4 lt1_4 c1_0_4 c1_1_4 lt2_4 c2_0_4 c2_1_4 lt3_4 c3_0_4 c3_1_4 lt4_4 c4_0_4 c4_1_4
  go_wp2_with fail
  refine (HA.out _).mono ?_; rintro e w6 ⟨rfl, hb6⟩
  obtain ⟨cc, ff⟩ := bcell hb6
  have sz6 : w5.heap.size + 1 ≤ w6.heap.size := by have := hb6.size; first | exact this | (simp at this; omega)
  have bw6 : Below w.heap.size w w6 := by
    refine Below.trans ?_ (hb6.mono (by first | omega | (simp; done) | (simp; omega)))
    go_grown
  have lt0_6 : w.heap.size < w6.heap.size := by omega
  have c0_0_6 : w6.cell? ⟨w.heap.size, 0, none⟩ = some (.int .i64 m) := by rw [cc _ _ (by first | omega | (simp; done) | (simp; omega))]; first | assumption | (simp [go_sem, *]; done)
  have c0_1_6 : w6.cell? ⟨w.heap.size, 1, none⟩ = some (.int .i64 s) := by rw [cc _ _ (by first | omega | (simp; done) | (simp; omega))]; first | assumption | (simp [go_sem, *]; done)
  have lt1_6 : w.heap.size + 1 < w6.heap.size := by omega
  have c1_0_6 : w6.cell? ⟨w.heap.size + 1, 0, none⟩ = some (.int .i64 n) := by rw [cc _ _ (by first | omega | (simp; done) | (simp; omega))]; first | assumption | (simp [go_sem, *]; done)
  have c1_1_6 : w6.cell? ⟨w.heap.size + 1, 1, none⟩ = some (.int .i64 t) := by rw [cc _ _ (by first | omega | (simp; done) | (simp; omega))]; first | assumption | (simp [go_sem, *]; done)
  have lt2_6 : w.heap.size + 1 + 1 < w6.heap.size := by omega
  have c2_0_6 : w6.cell? ⟨w.heap.size + 1 + 1, 0, none⟩ = some (.int .i64 p) := by rw [cc _ _ (by first | omega | (simp; done) | (simp; omega))]; first | assumption | (simp [go_sem, *]; done)
  have c2_1_6 : w6.cell? ⟨w.heap.size + 1 + 1, 1, none⟩ = some (.int .i64 q) := by rw [cc _ _ (by first | omega | (simp; done) | (simp; omega))]; first | assumption | (simp [go_sem, *]; done)
  have lt3_6 : w2.heap.size < w6.heap.size := by omega
  have c3_0_6 : w6.cell? ⟨w2.heap.size, 0, none⟩ = some (.int .i64 x) := by rw [cc _ _ (by first | omega | (simp; done) | (simp; omega))]; first | assumption | (simp [go_sem, *]; done)
  have c3_1_6 : w6.cell? ⟨w2.heap.size, 1, none⟩ = some (.int .i64 y) := by rw [cc _ _ (by first | omega | (simp; done) | (simp; omega))]; first | assumption | (simp [go_sem, *]; done)
  have lt4_6 : w3.heap.size < w6.heap.size := by omega
  have c4_0_6 : w6.cell? ⟨w3.heap.size, 0, none⟩ = some (.int .i64 x) := by rw [cc _ _ (by first | omega | (simp; done) | (simp; omega))]; first | assumption | (simp [go_sem, *]; done)
  have c4_1_6 : w6.cell? ⟨w3.heap.size, 1, none⟩ = some (.int .i64 y) := by rw [cc _ _ (by first | omega | (simp; done) | (simp; omega))]; first | assumption | (simp [go_sem, *]; done)
  have lt5_6 : w5.heap.size < w6.heap.size := by omega
  have c5_0_6 : w6.cell? ⟨w5.heap.size, 0, none⟩ = some (.int .i64 m) := by rw [cc _ _ (by first | omega | (simp; done) | (simp; omega))]; first | assumption | (simp [go_sem, *]; done)
  have c5_1_6 : w6.cell? ⟨w5.heap.size, 1, none⟩ = some (.int .i64 s) := by rw [cc _ _ (by first | omega | (simp; done) | (simp; omega))]; first | assumption | (simp [go_sem, *]; done)
  clear cc ff hb6 lt0_5 c0_0_5 c0_1_5 lt1_5 c1_0_5 c1_1_5 lt2_5 c2_0_5 c2_1_5 lt3_5 c3_0_5 c3_1_5 lt4_5 c4_0_5 c4_1_5
  go_wp2_with fail
  refine (HN.out _).mono ?_; rintro e w7 ⟨rfl, hb7⟩
  obtain ⟨cc, ff⟩ := bcell hb7
  have sz7 : w6.heap.size ≤ w7.heap.size := by have := hb7.size; first | exact this | (simp at this; omega)
  have bw7 : Below w.heap.size w w7 := by
    refine Below.trans ?_ (hb7.mono (by first | omega | (simp; done) | (simp; omega)))
    go_grown
  have lt0_7 : w.heap.size < w7.heap.size := by omega
  have c0_0_7 : w7.cell? ⟨w.heap.size, 0, none⟩ = some (.int .i64 m) := by rw [cc _ _ (by first | omega | (simp; done) | (simp; omega))]; first | assumption | (simp [go_sem, *]; done)
  have c0_1_7 : w7.cell? ⟨w.heap.size, 1, none⟩ = some (.int .i64 s) := by rw [cc _ _ (by first | omega | (simp; done) | (simp; omega))]; first | assumption | (simp [go_sem, *]; done)
  have lt1_7 : w.heap.size + 1 < w7.heap.size := by omega
  have c1_0_7 : w7.cell? ⟨w.heap.size + 1, 0, none⟩ = some (.int .i64 n) := by rw [cc _ _ (by first | omega | (simp; done) | (simp; omega))]; first | assumption | (simp [go_sem, *]; done)
  have c1_1_7 : w7.cell? ⟨w.heap.size + 1, 1, none⟩ = some (.int .i64 t) := by rw [cc _ _ (by first | omega | (simp; done) | (simp; omega))]; first | assumption | (simp [go_sem, *]; done)
  have lt2_7 : w.heap.size + 1 + 1 < w7.heap.size := by omega
  have c2_0_7 : w7.cell? ⟨w.heap.size + 1 + 1, 0, none⟩ = some (.int .i64 p) := by rw [cc _ _ (by first | omega | (simp; done) | (simp; omega))]; first | assumption | (simp [go_sem, *]; done)
  have c2_1_7 : w7.cell? ⟨w.heap.size + 1 + 1, 1, none⟩ = some (.int .i64 q) := by rw [cc _ _ (by first | omega | (simp; done) | (simp; omega))]; first | assumption | (simp [go_sem, *]; done)
  have lt3_7 : w2.heap.size < w7.heap.size := by omega
  have c3_0_7 : w7.cell? ⟨w2.heap.size, 0, none⟩ = some (.int .i64 x) := by rw [cc _ _ (by first | omega | (simp; done) | (simp; omega))]; first | assumption | (simp [go_sem, *]; done)
  have c3_1_7 : w7.cell? ⟨w2.heap.size, 1, none⟩ = some (.int .i64 y) := by rw [cc _ _ (by first | omega | (simp; done) | (simp; omega))]; first | assumption | (simp [go_sem, *]; done)
  have lt4_7 : w3.heap.size < w7.heap.size := by omega
  have c4_0_7 : w7.cell? ⟨w3.heap.size, 0, none⟩ = some (.int .i64 x) := by rw [cc _ _ (by first | omega | (simp; done) | (simp; omega))]; first | assumption | (simp [go_sem, *]; done)
  have c4_1_7 : w7.cell? ⟨w3.heap.size, 1, none⟩ = some (.int .i64 y) := by rw [cc _ _ (by first | omega | (simp; done) | (simp; omega))]; first | assumption | (simp [go_sem, *]; done)
  have lt5_7 : w5.heap.size < w7.heap.size := by omega
  have c5_0_7 : w7.cell? ⟨w5.heap.size, 0, none⟩ = some (.int .i64 m) := by rw [cc _ _ (by first | omega | (simp; done) | (simp; omega))]; first | assumption | (simp [go_sem, *]; done)
  have c5_1_7 : w7.cell? ⟨w5.heap.size, 1, none⟩ = some (.int .i64 s) := by rw [cc _ _ (by first | omega | (simp; done) | (simp; omega))]; first | assumption | (simp [go_sem, *]; done)
  clear cc ff hb7 lt0_6 c0_0_6 c0_1_6 lt1_6 c1_0_6 c1_1_6 lt2_6 c2_0_6 c2_1_6 lt3_6 c3_0_6 c3_1_6 lt4_6 c4_0_6 c4_1_6 lt5_6 c5_0_6 c5_1_6
  go_wp2_with fail
  refine (HU.out _).mono ?_; rintro e w8 ⟨rfl, hb8⟩
  obtain ⟨cc, ff⟩ := bcell hb8
  have sz8 : w7.heap.size ≤ w8.heap.size := by have := hb8.size; first | exact this | (simp at this; omega)
  have bw8 : Below w.heap.size w w8 := by
    refine Below.trans ?_ (hb8.mono (by first | omega | (simp; done) | (simp; omega)))
    go_grown
  have lt0_8 : w.heap.size < w8.heap.size := by omega
  have c0_0_8 : w8.cell? ⟨w.heap.size, 0, none⟩ = some (.int .i64 m) := by rw [cc _ _ (by first | omega | (simp; done) | (simp; omega))]; first | assumption | (simp [go_sem, *]; done)
  have c0_1_8 : w8.cell? ⟨w.heap.size, 1, none⟩ = some (.int .i64 s) := by rw [cc _ _ (by first | omega | (simp; done) | (simp; omega))]; first | assumption | (simp [go_sem, *]; done)
  have lt1_8 : w.heap.size + 1 < w8.heap.size := by omega
  have c1_0_8 : w8.cell? ⟨w.heap.size + 1, 0, none⟩ = some (.int .i64 n) := by rw [cc _ _ (by first | omega | (simp; done) | (simp; omega))]; first | assumption | (simp [go_sem, *]; done)
  have c1_1_8 : w8.cell? ⟨w.heap.size + 1, 1, none⟩ = some (.int .i64 t) := by rw [cc _ _ (by first | omega | (simp; done) | (simp; omega))]; first | assumption | (simp [go_sem, *]; done)
  have lt2_8 : w.heap.size + 1 + 1 < w8.heap.size := by omega
  have c2_0_8 : w8.cell? ⟨w.heap.size + 1 + 1, 0, none⟩ = some (.int .i64 p) := by rw [cc _ _ (by first | omega | (simp; done) | (simp; omega))]; first | assumption | (simp [go_sem, *]; done)
  have c2_1_8 : w8.cell? ⟨w.heap.size + 1 + 1, 1, none⟩ = some (.int .i64 q) := by rw [cc _ _ (by first | omega | (simp; done) | (simp; omega))]; first | assumption | (simp [go_sem, *]; done)
  have lt3_8 : w2.heap.size < w8.heap.size := by omega
  have c3_0_8 : w8.cell? ⟨w2.heap.size, 0, none⟩ = some (.int .i64 x) := by rw [cc _ _ (by first | omega | (simp; done) | (simp; omega))]; first | assumption | (simp [go_sem, *]; done)
  have c3_1_8 : w8.cell? ⟨w2.heap.size, 1, none⟩ = some (.int .i64 y) := by rw [cc _ _ (by first | omega | (simp; done) | (simp; omega))]; first | assumption | (simp [go_sem, *]; done)
  have lt4_8 : w3.heap.size < w8.heap.size := by omega
  have c4_0_8 : w8.cell? ⟨w3.heap.size, 0, none⟩ = some (.int .i64 x) := by rw [cc _ _ (by first | omega | (simp; done) | (simp; omega))]; first | assumption | (simp [go_sem, *]; done)
  have c4_1_8 : w8.cell? ⟨w3.heap.size, 1, none⟩ = some (.int .i64 y) := by rw [cc _ _ (by first | omega | (simp; done) | (simp; omega))]; first | assumption | (simp [go_sem, *]; done)
  have lt5_8 : w5.heap.size < w8.heap.size := by omega
  have c5_0_8 : w8.cell? ⟨w5.heap.size, 0, none⟩ = some (.int .i64 m) := by rw [cc _ _ (by first | omega | (simp; done) | (simp; omega))]; first | assumption | (simp [go_sem, *]; done)
  have c5_1_8 : w8.cell? ⟨w5.heap.size, 1, none⟩ = some (.int .i64 s) := by rw [cc _ _ (by first | omega | (simp; done) | (simp; omega))]; first | assumption | (simp [go_sem, *]; done)
  clear cc ff hb8 lt0_7 c0_0_7 c0_1_7 lt1_7 c1_0_7 c1_1_7 lt2_7 c2_0_7 c2_1_7 lt3_7 c3_0_7 c3_1_7 lt4_7 c4_0_7 c4_1_7 lt5_7 c5_0_7 c5_1_7
  go_wp2_with fail
  refine (HM.out _).mono ?_; rintro e w9 ⟨rfl, hb9⟩
  obtain ⟨cc, ff⟩ := bcell hb9
  have sz9 : w8.heap.size + 1 ≤ w9.heap.size := by have := hb9.size; first | exact this | (simp at this; omega)
  have bw9 : Below w.heap.size w w9 := by
    refine Below.trans ?_ (hb9.mono (by first | omega | (simp; done) | (simp; omega)))
    go_grown
  have lt0_9 : w.heap.size < w9.heap.size := by omega
  have c0_0_9 : w9.cell? ⟨w.heap.size, 0, none⟩ = some (.int .i64 m) := by rw [cc _ _ (by first | omega | (simp; done) | (simp; omega))]; first | assumption | (simp [go_sem, *]; done)
  have c0_1_9 : w9.cell? ⟨w.heap.size, 1, none⟩ = some (.int .i64 s) := by rw [cc _ _ (by first | omega | (simp; done) | (simp; omega))]; first | assumption | (simp [go_sem, *]; done)
  have lt1_9 : w.heap.size + 1 < w9.heap.size := by omega
  have c1_0_9 : w9.cell? ⟨w.heap.size + 1, 0, none⟩ = some (.int .i64 n) := by rw [cc _ _ (by first | omega | (simp; done) | (simp; omega))]; first | assumption | (simp [go_sem, *]; done)
  have c1_1_9 : w9.cell? ⟨w.heap.size + 1, 1, none⟩ = some (.int .i64 t) := by rw [cc _ _ (by first | omega | (simp; done) | (simp; omega))]; first | assumption | (simp [go_sem, *]; done)
  have lt2_9 : w.heap.size + 1 + 1 < w9.heap.size := by omega
  have c2_0_9 : w9.cell? ⟨w.heap.size + 1 + 1, 0, none⟩ = some (.int .i64 p) := by rw [cc _ _ (by first | omega | (simp; done) | (simp; omega))]; first | assumption | (simp [go_sem, *]; done)
  have c2_1_9 : w9.cell? ⟨w.heap.size + 1 + 1, 1, none⟩ = some (.int .i64 q) := by rw [cc _ _ (by first | omega | (simp; done) | (simp; omega))]; first | assumption | (simp [go_sem, *]; done)
  have lt3_9 : w2.heap.size < w9.heap.size := by omega
  have c3_0_9 : w9.cell? ⟨w2.heap.size, 0, none⟩ = some (.int .i64 x) := by rw [cc _ _ (by first | omega | (simp; done) | (simp; omega))]; first | assumption | (simp [go_sem, *]; done)
  have c3_1_9 : w9.cell? ⟨w2.heap.size, 1, none⟩ = some (.int .i64 y) := by rw [cc _ _ (by first | omega | (simp; done) | (simp; omega))]; first | assumption | (simp [go_sem, *]; done)
  have lt4_9 : w3.heap.size < w9.heap.size := by omega
  have c4_0_9 : w9.cell? ⟨w3.heap.size, 0, none⟩ = some (.int .i64 x) := by rw [cc _ _ (by first | omega | (simp; done) | (simp; omega))]; first | assumption | (simp [go_sem, *]; done)
  have c4_1_9 : w9.cell? ⟨w3.heap.size, 1, none⟩ = some (.int .i64 y) := by rw [cc _ _ (by first | omega | (simp; done) | (simp; omega))]; first | assumption | (simp [go_sem, *]; done)
  have lt5_9 : w5.heap.size < w9.heap.size := by omega
  have c5_0_9 : w9.cell? ⟨w5.heap.size, 0, none⟩ = some (.int .i64 m) := by rw [cc _ _ (by first | omega | (simp; done) | (simp; omega))]; first | assumption | (simp [go_sem, *]; done)
  have c5_1_9 : w9.cell? ⟨w5.heap.size, 1, none⟩ = some (.int .i64 s) := by rw [cc _ _ (by first | omega | (simp; done) | (simp; omega))]; first | assumption | (simp [go_sem, *]; done)
  have lt6_9 : w8.heap.size < w9.heap.size := by omega
  have c6_0_9 : w9.cell? ⟨w8.heap.size, 0, none⟩ = some (.int .i64 u1) := by rw [cc _ _ (by first | omega | (simp; done) | (simp; omega))]; first | assumption | (simp [go_sem, *]; done)
  have c6_1_9 : w9.cell? ⟨w8.heap.size, 1, none⟩ = some (.int .i64 u2) := by rw [cc _ _ (by first | omega | (simp; done) | (simp; omega))]; first | assumption | (simp [go_sem, *]; done)
  clear cc ff hb9 lt0_8 c0_0_8 c0_1_8 lt1_8 c1_0_8 c1_1_8 lt2_8 c2_0_8 c2_1_8 lt3_8 c3_0_8 c3_1_8 lt4_8 c4_0_8 c4_1_8 lt5_8 c5_0_8 c5_1_8
  go_wp2_with fail
  go_ret
  refine ⟨rfl, ?_⟩
  go_grown
end Go.Proofs.YtfhgcpmadajbdaaDoor
