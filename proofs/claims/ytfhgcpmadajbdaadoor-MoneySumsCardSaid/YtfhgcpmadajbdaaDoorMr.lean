/- The walk through the law on Decimals and their texts (provostlaw14.MoneyBack). -/
import Derived.Test.YtfhgcpmadajbdaaDoorMk
import Derived.Test.YtfhgcpmadajbdaaDoorMl
import Derived.Test.YtfhgcpmadajbdaaDoorMn
set_option linter.unusedSimpArgs false
set_option linter.unusedVariables false
namespace Go.Proofs.YtfhgcpmadajbdaaDoor
open Go.RowKit
theorem money_neq (a b c d : Int) (w : World) : (binOp .neq 23 (.agg #[.int .i64 a, .int .i64 b]) (.agg #[.int .i64 c, .int .i64 d])).run Tryd.prog w = .ok (.bool (!(a == c && b == d))) w := by
  simp [go_sem]
  by_cases h : a = c <;> by_cases h2 : b = d <;> simp [h, h2]
theorem Env.tabs {w : World} (h : Env w) : EnvT w := h.tab
set_option maxRecDepth 100000 in
set_option maxHeartbeats 1000000 in
theorem back_bad_bad (m s : Int) (sB tB uB : ByteArray) (x y f y1 y2 z1 z2 h i : Int) (w : World) (he : Env w) (hs : sB.size ≤ 2000) (hu : uB.size ≤ 100000)
    (HT1 : Hid (∀ w, EnvT w → Calls Tryd.prog 9 #[.agg #[.int .i64 m, .int .i64 s]] w fun e w' => e = .returned (.tuple #[.string tB, .int .i64 140]) ∧ Below w.heap.size w w')) (HP1 : Hid (∀ w, Env w → Calls Tryd.prog 19 #[.string tB] w fun e w' => e = .returned (.tuple #[.agg #[.int .i64 x, .int .i64 y], .int .i64 f]) ∧ Below w.heap.size w w')) (h1 : tB.toList = []) (h2 : tB.toList.isEmpty = true)
    (HP2 : Hid (∀ w, Env w → Calls Tryd.prog 19 #[.string sB] w fun e w' => e = .returned (.tuple #[.agg #[.int .i64 y1, .int .i64 y2], .int .i64 140]) ∧ Below w.heap.size w w')) (HT2 : Hid (∀ w, EnvT w → Calls Tryd.prog 9 #[.agg #[.int .i64 y1, .int .i64 y2]] w fun e w' => e = .returned (.tuple #[.string uB, .int .i64 h]) ∧ Below w.heap.size w w')) (HP3 : Hid (∀ w, Env w → Calls Tryd.prog 19 #[.string uB] w fun e w' => e = .returned (.tuple #[.agg #[.int .i64 z1, .int .i64 z2], .int .i64 i]) ∧ Below w.heap.size w w')) :
    Calls Tryd.prog 6 #[.agg #[.int .i64 m, .int .i64 s], .string sB] w fun e w' => e = .returned (.bool true) ∧ Below w.heap.size w w' := by
  have HA := Lib.hid (fun w he => alive_true w he)
  go_enter Tryd.func6, Tryd.ntmps6
  go_wp2_with fail
  refine (HA.out _ (he.stays (by go_grown))).mono ?_; rintro e w1 ⟨rfl, hb1⟩
  obtain ⟨cc, ff⟩ := bcell hb1
  have sz1 : w.heap.size + 1 ≤ w1.heap.size := by have := hb1.size; first | exact this | (simp at this; omega)
  have bw1 : Below w.heap.size w w1 := by
    refine Below.trans ?_ (hb1.mono (by first | omega | (simp; done) | (simp; omega)))
    go_grown
  have lt0_1 : w.heap.size < w1.heap.size := by omega
  have c0_0_1 : w1.cell? ⟨w.heap.size, 0, none⟩ = some (.int .i64 m) := by rw [cc _ _ (by first | omega | (simp; done) | (simp; omega))]; first | assumption | (simp [go_sem, *]; done)
  have c0_1_1 : w1.cell? ⟨w.heap.size, 1, none⟩ = some (.int .i64 s) := by rw [cc _ _ (by first | omega | (simp; done) | (simp; omega))]; first | assumption | (simp [go_sem, *]; done)
  clear cc ff hb1
  have e1 := he.stays bw1
  go_wp2_with fail
  refine (HT1.out _ e1.tabs).mono ?_; rintro e w2 ⟨rfl, hb2⟩
  obtain ⟨cc, ff⟩ := bcell hb2
  have sz2 : w1.heap.size ≤ w2.heap.size := by have := hb2.size; first | exact this | (simp at this; omega)
  have bw2 : Below w.heap.size w w2 := by
    refine Below.trans ?_ (hb2.mono (by first | omega | (simp; done) | (simp; omega)))
    go_grown
  have lt0_2 : w.heap.size < w2.heap.size := by omega
  have c0_0_2 : w2.cell? ⟨w.heap.size, 0, none⟩ = some (.int .i64 m) := by rw [cc _ _ (by first | omega | (simp; done) | (simp; omega))]; first | assumption | (simp [go_sem, *]; done)
  have c0_1_2 : w2.cell? ⟨w.heap.size, 1, none⟩ = some (.int .i64 s) := by rw [cc _ _ (by first | omega | (simp; done) | (simp; omega))]; first | assumption | (simp [go_sem, *]; done)
  clear cc ff hb2 lt0_1 c0_0_1 c0_1_1
  have e2 := he.stays bw2
  go_wp2_with fail
  refine (HP1.out _ e2).mono ?_; rintro e w3 ⟨rfl, hb3⟩
  obtain ⟨cc, ff⟩ := bcell hb3
  have sz3 : w2.heap.size ≤ w3.heap.size := by have := hb3.size; first | exact this | (simp at this; omega)
  have bw3 : Below w.heap.size w w3 := by
    refine Below.trans ?_ (hb3.mono (by first | omega | (simp; done) | (simp; omega)))
    go_grown
  have lt0_3 : w.heap.size < w3.heap.size := by omega
  have c0_0_3 : w3.cell? ⟨w.heap.size, 0, none⟩ = some (.int .i64 m) := by rw [cc _ _ (by first | omega | (simp; done) | (simp; omega))]; first | assumption | (simp [go_sem, *]; done)
  have c0_1_3 : w3.cell? ⟨w.heap.size, 1, none⟩ = some (.int .i64 s) := by rw [cc _ _ (by first | omega | (simp; done) | (simp; omega))]; first | assumption | (simp [go_sem, *]; done)
  clear cc ff hb3 lt0_2 c0_0_2 c0_1_2
  have e3 := he.stays bw3
  go_wp2_with fail
  refine (HP2.out _ (e3.stays (by go_grown))).mono ?_; rintro e w4 ⟨rfl, hb4⟩
  obtain ⟨cc, ff⟩ := bcell hb4
  have sz4 : w3.heap.size + 1 ≤ w4.heap.size := by have := hb4.size; first | exact this | (simp at this; omega)
  have bw4 : Below w.heap.size w w4 := by
    refine Below.trans ?_ (hb4.mono (by first | omega | (simp; done) | (simp; omega)))
    go_grown
  have lt0_4 : w.heap.size < w4.heap.size := by omega
  have c0_0_4 : w4.cell? ⟨w.heap.size, 0, none⟩ = some (.int .i64 m) := by rw [cc _ _ (by first | omega | (simp; done) | (simp; omega))]; first | assumption | (simp [go_sem, *]; done)
  have c0_1_4 : w4.cell? ⟨w.heap.size, 1, none⟩ = some (.int .i64 s) := by rw [cc _ _ (by first | omega | (simp; done) | (simp; omega))]; first | assumption | (simp [go_sem, *]; done)
  have lt1_4 : w3.heap.size < w4.heap.size := by omega
  have c1_0_4 : w4.cell? ⟨w3.heap.size, 0, none⟩ = some (.int .i64 x) := by rw [cc _ _ (by first | omega | (simp; done) | (simp; omega))]; first | assumption | (simp [go_sem, *]; done)
  have c1_1_4 : w4.cell? ⟨w3.heap.size, 1, none⟩ = some (.int .i64 y) := by rw [cc _ _ (by first | omega | (simp; done) | (simp; omega))]; first | assumption | (simp [go_sem, *]; done)
  clear cc ff hb4 lt0_3 c0_0_3 c0_1_3
  have e4 := he.stays bw4
  go_wp2_with fail
  refine (HT2.out _ (e4.stays (by go_grown)).tabs).mono ?_; rintro e w5 ⟨rfl, hb5⟩
  obtain ⟨cc, ff⟩ := bcell hb5
  have sz5 : w4.heap.size + 1 ≤ w5.heap.size := by have := hb5.size; first | exact this | (simp at this; omega)
  have bw5 : Below w.heap.size w w5 := by
    refine Below.trans ?_ (hb5.mono (by first | omega | (simp; done) | (simp; omega)))
    go_grown
  have lt0_5 : w.heap.size < w5.heap.size := by omega
  have c0_0_5 : w5.cell? ⟨w.heap.size, 0, none⟩ = some (.int .i64 m) := by rw [cc _ _ (by first | omega | (simp; done) | (simp; omega))]; first | assumption | (simp [go_sem, *]; done)
  have c0_1_5 : w5.cell? ⟨w.heap.size, 1, none⟩ = some (.int .i64 s) := by rw [cc _ _ (by first | omega | (simp; done) | (simp; omega))]; first | assumption | (simp [go_sem, *]; done)
  have lt1_5 : w3.heap.size < w5.heap.size := by omega
  have c1_0_5 : w5.cell? ⟨w3.heap.size, 0, none⟩ = some (.int .i64 x) := by rw [cc _ _ (by first | omega | (simp; done) | (simp; omega))]; first | assumption | (simp [go_sem, *]; done)
  have c1_1_5 : w5.cell? ⟨w3.heap.size, 1, none⟩ = some (.int .i64 y) := by rw [cc _ _ (by first | omega | (simp; done) | (simp; omega))]; first | assumption | (simp [go_sem, *]; done)
  have lt2_5 : w4.heap.size < w5.heap.size := by omega
  have c2_0_5 : w5.cell? ⟨w4.heap.size, 0, none⟩ = some (.int .i64 y1) := by rw [cc _ _ (by first | omega | (simp; done) | (simp; omega))]; first | assumption | (simp [go_sem, *]; done)
  have c2_1_5 : w5.cell? ⟨w4.heap.size, 1, none⟩ = some (.int .i64 y2) := by rw [cc _ _ (by first | omega | (simp; done) | (simp; omega))]; first | assumption | (simp [go_sem, *]; done)
  clear cc ff hb5 lt0_4 c0_0_4 c0_1_4 lt1_4 c1_0_4 c1_1_4
  have e5 := he.stays bw5
  go_wp2_with fail
  refine (HP3.out _ e5).mono ?_; rintro e w6 ⟨rfl, hb6⟩
  obtain ⟨cc, ff⟩ := bcell hb6
  have sz6 : w5.heap.size ≤ w6.heap.size := by have := hb6.size; first | exact this | (simp at this; omega)
  have bw6 : Below w.heap.size w w6 := by
    refine Below.trans ?_ (hb6.mono (by first | omega | (simp; done) | (simp; omega)))
    go_grown
  have lt0_6 : w.heap.size < w6.heap.size := by omega
  have c0_0_6 : w6.cell? ⟨w.heap.size, 0, none⟩ = some (.int .i64 m) := by rw [cc _ _ (by first | omega | (simp; done) | (simp; omega))]; first | assumption | (simp [go_sem, *]; done)
  have c0_1_6 : w6.cell? ⟨w.heap.size, 1, none⟩ = some (.int .i64 s) := by rw [cc _ _ (by first | omega | (simp; done) | (simp; omega))]; first | assumption | (simp [go_sem, *]; done)
  have lt1_6 : w3.heap.size < w6.heap.size := by omega
  have c1_0_6 : w6.cell? ⟨w3.heap.size, 0, none⟩ = some (.int .i64 x) := by rw [cc _ _ (by first | omega | (simp; done) | (simp; omega))]; first | assumption | (simp [go_sem, *]; done)
  have c1_1_6 : w6.cell? ⟨w3.heap.size, 1, none⟩ = some (.int .i64 y) := by rw [cc _ _ (by first | omega | (simp; done) | (simp; omega))]; first | assumption | (simp [go_sem, *]; done)
  have lt2_6 : w4.heap.size < w6.heap.size := by omega
  have c2_0_6 : w6.cell? ⟨w4.heap.size, 0, none⟩ = some (.int .i64 y1) := by rw [cc _ _ (by first | omega | (simp; done) | (simp; omega))]; first | assumption | (simp [go_sem, *]; done)
  have c2_1_6 : w6.cell? ⟨w4.heap.size, 1, none⟩ = some (.int .i64 y2) := by rw [cc _ _ (by first | omega | (simp; done) | (simp; omega))]; first | assumption | (simp [go_sem, *]; done)
  clear cc ff hb6 lt0_5 c0_0_5 c0_1_5 lt1_5 c1_0_5 c1_1_5 lt2_5 c2_0_5 c2_1_5
  go_wp2_with fail
  go_ret
  refine ⟨rfl, ?_⟩
  go_grown
set_option maxRecDepth 100000 in
set_option maxHeartbeats 1000000 in
theorem back_bad_ok (m s : Int) (sB tB uB : ByteArray) (x y f y1 y2 z1 z2 h i : Int) (w : World) (he : Env w) (hs : sB.size ≤ 2000) (hu : uB.size ≤ 100000)
    (HT1 : Hid (∀ w, EnvT w → Calls Tryd.prog 9 #[.agg #[.int .i64 m, .int .i64 s]] w fun e w' => e = .returned (.tuple #[.string tB, .int .i64 140]) ∧ Below w.heap.size w w')) (HP1 : Hid (∀ w, Env w → Calls Tryd.prog 19 #[.string tB] w fun e w' => e = .returned (.tuple #[.agg #[.int .i64 x, .int .i64 y], .int .i64 f]) ∧ Below w.heap.size w w')) (h1 : tB.toList = []) (h2 : tB.toList.isEmpty = true)
    (HP2 : Hid (∀ w, Env w → Calls Tryd.prog 19 #[.string sB] w fun e w' => e = .returned (.tuple #[.agg #[.int .i64 y1, .int .i64 y2], .int .i64 0]) ∧ Below w.heap.size w w')) (HT2 : Hid (∀ w, EnvT w → Calls Tryd.prog 9 #[.agg #[.int .i64 y1, .int .i64 y2]] w fun e w' => e = .returned (.tuple #[.string uB, .int .i64 0]) ∧ Below w.heap.size w w')) (HP3 : Hid (∀ w, Env w → Calls Tryd.prog 19 #[.string uB] w fun e w' => e = .returned (.tuple #[.agg #[.int .i64 y1, .int .i64 y2], .int .i64 0]) ∧ Below w.heap.size w w')) (h3 : uB.size ≤ sB.size) :
    Calls Tryd.prog 6 #[.agg #[.int .i64 m, .int .i64 s], .string sB] w fun e w' => e = .returned (.bool true) ∧ Below w.heap.size w w' := by
  have HA := Lib.hid (fun w he => alive_true w he)
  go_enter Tryd.func6, Tryd.ntmps6
  go_wp2_with fail
  refine (HA.out _ (he.stays (by go_grown))).mono ?_; rintro e w1 ⟨rfl, hb1⟩
  obtain ⟨cc, ff⟩ := bcell hb1
  have sz1 : w.heap.size + 1 ≤ w1.heap.size := by have := hb1.size; first | exact this | (simp at this; omega)
  have bw1 : Below w.heap.size w w1 := by
    refine Below.trans ?_ (hb1.mono (by first | omega | (simp; done) | (simp; omega)))
    go_grown
  have lt0_1 : w.heap.size < w1.heap.size := by omega
  have c0_0_1 : w1.cell? ⟨w.heap.size, 0, none⟩ = some (.int .i64 m) := by rw [cc _ _ (by first | omega | (simp; done) | (simp; omega))]; first | assumption | (simp [go_sem, *]; done)
  have c0_1_1 : w1.cell? ⟨w.heap.size, 1, none⟩ = some (.int .i64 s) := by rw [cc _ _ (by first | omega | (simp; done) | (simp; omega))]; first | assumption | (simp [go_sem, *]; done)
  clear cc ff hb1
  have e1 := he.stays bw1
  go_wp2_with fail
  refine (HT1.out _ e1.tabs).mono ?_; rintro e w2 ⟨rfl, hb2⟩
  obtain ⟨cc, ff⟩ := bcell hb2
  have sz2 : w1.heap.size ≤ w2.heap.size := by have := hb2.size; first | exact this | (simp at this; omega)
  have bw2 : Below w.heap.size w w2 := by
    refine Below.trans ?_ (hb2.mono (by first | omega | (simp; done) | (simp; omega)))
    go_grown
  have lt0_2 : w.heap.size < w2.heap.size := by omega
  have c0_0_2 : w2.cell? ⟨w.heap.size, 0, none⟩ = some (.int .i64 m) := by rw [cc _ _ (by first | omega | (simp; done) | (simp; omega))]; first | assumption | (simp [go_sem, *]; done)
  have c0_1_2 : w2.cell? ⟨w.heap.size, 1, none⟩ = some (.int .i64 s) := by rw [cc _ _ (by first | omega | (simp; done) | (simp; omega))]; first | assumption | (simp [go_sem, *]; done)
  clear cc ff hb2 lt0_1 c0_0_1 c0_1_1
  have e2 := he.stays bw2
  go_wp2_with fail
  refine (HP1.out _ e2).mono ?_; rintro e w3 ⟨rfl, hb3⟩
  obtain ⟨cc, ff⟩ := bcell hb3
  have sz3 : w2.heap.size ≤ w3.heap.size := by have := hb3.size; first | exact this | (simp at this; omega)
  have bw3 : Below w.heap.size w w3 := by
    refine Below.trans ?_ (hb3.mono (by first | omega | (simp; done) | (simp; omega)))
    go_grown
  have lt0_3 : w.heap.size < w3.heap.size := by omega
  have c0_0_3 : w3.cell? ⟨w.heap.size, 0, none⟩ = some (.int .i64 m) := by rw [cc _ _ (by first | omega | (simp; done) | (simp; omega))]; first | assumption | (simp [go_sem, *]; done)
  have c0_1_3 : w3.cell? ⟨w.heap.size, 1, none⟩ = some (.int .i64 s) := by rw [cc _ _ (by first | omega | (simp; done) | (simp; omega))]; first | assumption | (simp [go_sem, *]; done)
  clear cc ff hb3 lt0_2 c0_0_2 c0_1_2
  have e3 := he.stays bw3
  go_wp2_with fail
  refine (HP2.out _ (e3.stays (by go_grown))).mono ?_; rintro e w4 ⟨rfl, hb4⟩
  obtain ⟨cc, ff⟩ := bcell hb4
  have sz4 : w3.heap.size + 1 ≤ w4.heap.size := by have := hb4.size; first | exact this | (simp at this; omega)
  have bw4 : Below w.heap.size w w4 := by
    refine Below.trans ?_ (hb4.mono (by first | omega | (simp; done) | (simp; omega)))
    go_grown
  have lt0_4 : w.heap.size < w4.heap.size := by omega
  have c0_0_4 : w4.cell? ⟨w.heap.size, 0, none⟩ = some (.int .i64 m) := by rw [cc _ _ (by first | omega | (simp; done) | (simp; omega))]; first | assumption | (simp [go_sem, *]; done)
  have c0_1_4 : w4.cell? ⟨w.heap.size, 1, none⟩ = some (.int .i64 s) := by rw [cc _ _ (by first | omega | (simp; done) | (simp; omega))]; first | assumption | (simp [go_sem, *]; done)
  have lt1_4 : w3.heap.size < w4.heap.size := by omega
  have c1_0_4 : w4.cell? ⟨w3.heap.size, 0, none⟩ = some (.int .i64 x) := by rw [cc _ _ (by first | omega | (simp; done) | (simp; omega))]; first | assumption | (simp [go_sem, *]; done)
  have c1_1_4 : w4.cell? ⟨w3.heap.size, 1, none⟩ = some (.int .i64 y) := by rw [cc _ _ (by first | omega | (simp; done) | (simp; omega))]; first | assumption | (simp [go_sem, *]; done)
  clear cc ff hb4 lt0_3 c0_0_3 c0_1_3
  have e4 := he.stays bw4
  go_wp2_with fail
  refine (HT2.out _ (e4.stays (by go_grown)).tabs).mono ?_; rintro e w5 ⟨rfl, hb5⟩
  obtain ⟨cc, ff⟩ := bcell hb5
  have sz5 : w4.heap.size + 1 ≤ w5.heap.size := by have := hb5.size; first | exact this | (simp at this; omega)
  have bw5 : Below w.heap.size w w5 := by
    refine Below.trans ?_ (hb5.mono (by first | omega | (simp; done) | (simp; omega)))
    go_grown
  have lt0_5 : w.heap.size < w5.heap.size := by omega
  have c0_0_5 : w5.cell? ⟨w.heap.size, 0, none⟩ = some (.int .i64 m) := by rw [cc _ _ (by first | omega | (simp; done) | (simp; omega))]; first | assumption | (simp [go_sem, *]; done)
  have c0_1_5 : w5.cell? ⟨w.heap.size, 1, none⟩ = some (.int .i64 s) := by rw [cc _ _ (by first | omega | (simp; done) | (simp; omega))]; first | assumption | (simp [go_sem, *]; done)
  have lt1_5 : w3.heap.size < w5.heap.size := by omega
  have c1_0_5 : w5.cell? ⟨w3.heap.size, 0, none⟩ = some (.int .i64 x) := by rw [cc _ _ (by first | omega | (simp; done) | (simp; omega))]; first | assumption | (simp [go_sem, *]; done)
  have c1_1_5 : w5.cell? ⟨w3.heap.size, 1, none⟩ = some (.int .i64 y) := by rw [cc _ _ (by first | omega | (simp; done) | (simp; omega))]; first | assumption | (simp [go_sem, *]; done)
  have lt2_5 : w4.heap.size < w5.heap.size := by omega
  have c2_0_5 : w5.cell? ⟨w4.heap.size, 0, none⟩ = some (.int .i64 y1) := by rw [cc _ _ (by first | omega | (simp; done) | (simp; omega))]; first | assumption | (simp [go_sem, *]; done)
  have c2_1_5 : w5.cell? ⟨w4.heap.size, 1, none⟩ = some (.int .i64 y2) := by rw [cc _ _ (by first | omega | (simp; done) | (simp; omega))]; first | assumption | (simp [go_sem, *]; done)
  clear cc ff hb5 lt0_4 c0_0_4 c0_1_4 lt1_4 c1_0_4 c1_1_4
  have e5 := he.stays bw5
  go_wp2_with fail
  refine (HP3.out _ e5).mono ?_; rintro e w6 ⟨rfl, hb6⟩
  obtain ⟨cc, ff⟩ := bcell hb6
  have sz6 : w5.heap.size ≤ w6.heap.size := by have := hb6.size; first | exact this | (simp at this; omega)
  have bw6 : Below w.heap.size w w6 := by
    refine Below.trans ?_ (hb6.mono (by first | omega | (simp; done) | (simp; omega)))
    go_grown
  have lt0_6 : w.heap.size < w6.heap.size := by omega
  have c0_0_6 : w6.cell? ⟨w.heap.size, 0, none⟩ = some (.int .i64 m) := by rw [cc _ _ (by first | omega | (simp; done) | (simp; omega))]; first | assumption | (simp [go_sem, *]; done)
  have c0_1_6 : w6.cell? ⟨w.heap.size, 1, none⟩ = some (.int .i64 s) := by rw [cc _ _ (by first | omega | (simp; done) | (simp; omega))]; first | assumption | (simp [go_sem, *]; done)
  have lt1_6 : w3.heap.size < w6.heap.size := by omega
  have c1_0_6 : w6.cell? ⟨w3.heap.size, 0, none⟩ = some (.int .i64 x) := by rw [cc _ _ (by first | omega | (simp; done) | (simp; omega))]; first | assumption | (simp [go_sem, *]; done)
  have c1_1_6 : w6.cell? ⟨w3.heap.size, 1, none⟩ = some (.int .i64 y) := by rw [cc _ _ (by first | omega | (simp; done) | (simp; omega))]; first | assumption | (simp [go_sem, *]; done)
  have lt2_6 : w4.heap.size < w6.heap.size := by omega
  have c2_0_6 : w6.cell? ⟨w4.heap.size, 0, none⟩ = some (.int .i64 y1) := by rw [cc _ _ (by first | omega | (simp; done) | (simp; omega))]; first | assumption | (simp [go_sem, *]; done)
  have c2_1_6 : w6.cell? ⟨w4.heap.size, 1, none⟩ = some (.int .i64 y2) := by rw [cc _ _ (by first | omega | (simp; done) | (simp; omega))]; first | assumption | (simp [go_sem, *]; done)
  clear cc ff hb6 lt0_5 c0_0_5 c0_1_5 lt1_5 c1_0_5 c1_1_5 lt2_5 c2_0_5 c2_1_5
  go_wp2_with fail
  go_ret
  refine ⟨rfl, ?_⟩
  go_grown
set_option maxRecDepth 100000 in
set_option maxHeartbeats 1000000 in
theorem back_ok_bad (m s : Int) (sB tB uB : ByteArray) (x y f y1 y2 z1 z2 h i : Int) (w : World) (he : Env w) (hs : sB.size ≤ 2000) (hu : uB.size ≤ 100000)
    (HT1 : Hid (∀ w, EnvT w → Calls Tryd.prog 9 #[.agg #[.int .i64 m, .int .i64 s]] w fun e w' => e = .returned (.tuple #[.string tB, .int .i64 0]) ∧ Below w.heap.size w w')) (HP1 : Hid (∀ w, Env w → Calls Tryd.prog 19 #[.string tB] w fun e w' => e = .returned (.tuple #[.agg #[.int .i64 m, .int .i64 s], .int .i64 0]) ∧ Below w.heap.size w w'))
    (HP2 : Hid (∀ w, Env w → Calls Tryd.prog 19 #[.string sB] w fun e w' => e = .returned (.tuple #[.agg #[.int .i64 y1, .int .i64 y2], .int .i64 140]) ∧ Below w.heap.size w w')) (HT2 : Hid (∀ w, EnvT w → Calls Tryd.prog 9 #[.agg #[.int .i64 y1, .int .i64 y2]] w fun e w' => e = .returned (.tuple #[.string uB, .int .i64 h]) ∧ Below w.heap.size w w')) (HP3 : Hid (∀ w, Env w → Calls Tryd.prog 19 #[.string uB] w fun e w' => e = .returned (.tuple #[.agg #[.int .i64 z1, .int .i64 z2], .int .i64 i]) ∧ Below w.heap.size w w')) :
    Calls Tryd.prog 6 #[.agg #[.int .i64 m, .int .i64 s], .string sB] w fun e w' => e = .returned (.bool true) ∧ Below w.heap.size w w' := by
  have HA := Lib.hid (fun w he => alive_true w he)
  go_enter Tryd.func6, Tryd.ntmps6
  go_wp2_with fail
  refine (HA.out _ (he.stays (by go_grown))).mono ?_; rintro e w1 ⟨rfl, hb1⟩
  obtain ⟨cc, ff⟩ := bcell hb1
  have sz1 : w.heap.size + 1 ≤ w1.heap.size := by have := hb1.size; first | exact this | (simp at this; omega)
  have bw1 : Below w.heap.size w w1 := by
    refine Below.trans ?_ (hb1.mono (by first | omega | (simp; done) | (simp; omega)))
    go_grown
  have lt0_1 : w.heap.size < w1.heap.size := by omega
  have c0_0_1 : w1.cell? ⟨w.heap.size, 0, none⟩ = some (.int .i64 m) := by rw [cc _ _ (by first | omega | (simp; done) | (simp; omega))]; first | assumption | (simp [go_sem, *]; done)
  have c0_1_1 : w1.cell? ⟨w.heap.size, 1, none⟩ = some (.int .i64 s) := by rw [cc _ _ (by first | omega | (simp; done) | (simp; omega))]; first | assumption | (simp [go_sem, *]; done)
  clear cc ff hb1
  have e1 := he.stays bw1
  go_wp2_with fail
  refine (HT1.out _ e1.tabs).mono ?_; rintro e w2 ⟨rfl, hb2⟩
  obtain ⟨cc, ff⟩ := bcell hb2
  have sz2 : w1.heap.size ≤ w2.heap.size := by have := hb2.size; first | exact this | (simp at this; omega)
  have bw2 : Below w.heap.size w w2 := by
    refine Below.trans ?_ (hb2.mono (by first | omega | (simp; done) | (simp; omega)))
    go_grown
  have lt0_2 : w.heap.size < w2.heap.size := by omega
  have c0_0_2 : w2.cell? ⟨w.heap.size, 0, none⟩ = some (.int .i64 m) := by rw [cc _ _ (by first | omega | (simp; done) | (simp; omega))]; first | assumption | (simp [go_sem, *]; done)
  have c0_1_2 : w2.cell? ⟨w.heap.size, 1, none⟩ = some (.int .i64 s) := by rw [cc _ _ (by first | omega | (simp; done) | (simp; omega))]; first | assumption | (simp [go_sem, *]; done)
  clear cc ff hb2 lt0_1 c0_0_1 c0_1_1
  have e2 := he.stays bw2
  go_wp2_with fail
  refine (HP1.out _ e2).mono ?_; rintro e w3 ⟨rfl, hb3⟩
  obtain ⟨cc, ff⟩ := bcell hb3
  have sz3 : w2.heap.size ≤ w3.heap.size := by have := hb3.size; first | exact this | (simp at this; omega)
  have bw3 : Below w.heap.size w w3 := by
    refine Below.trans ?_ (hb3.mono (by first | omega | (simp; done) | (simp; omega)))
    go_grown
  have lt0_3 : w.heap.size < w3.heap.size := by omega
  have c0_0_3 : w3.cell? ⟨w.heap.size, 0, none⟩ = some (.int .i64 m) := by rw [cc _ _ (by first | omega | (simp; done) | (simp; omega))]; first | assumption | (simp [go_sem, *]; done)
  have c0_1_3 : w3.cell? ⟨w.heap.size, 1, none⟩ = some (.int .i64 s) := by rw [cc _ _ (by first | omega | (simp; done) | (simp; omega))]; first | assumption | (simp [go_sem, *]; done)
  clear cc ff hb3 lt0_2 c0_0_2 c0_1_2
  have e3 := he.stays bw3
  go_wp2_with fail
  refine (HP2.out _ (e3.stays (by go_grown))).mono ?_; rintro e w4 ⟨rfl, hb4⟩
  obtain ⟨cc, ff⟩ := bcell hb4
  have sz4 : w3.heap.size + 1 ≤ w4.heap.size := by have := hb4.size; first | exact this | (simp at this; omega)
  have bw4 : Below w.heap.size w w4 := by
    refine Below.trans ?_ (hb4.mono (by first | omega | (simp; done) | (simp; omega)))
    go_grown
  have lt0_4 : w.heap.size < w4.heap.size := by omega
  have c0_0_4 : w4.cell? ⟨w.heap.size, 0, none⟩ = some (.int .i64 m) := by rw [cc _ _ (by first | omega | (simp; done) | (simp; omega))]; first | assumption | (simp [go_sem, *]; done)
  have c0_1_4 : w4.cell? ⟨w.heap.size, 1, none⟩ = some (.int .i64 s) := by rw [cc _ _ (by first | omega | (simp; done) | (simp; omega))]; first | assumption | (simp [go_sem, *]; done)
  have lt1_4 : w3.heap.size < w4.heap.size := by omega
  have c1_0_4 : w4.cell? ⟨w3.heap.size, 0, none⟩ = some (.int .i64 m) := by rw [cc _ _ (by first | omega | (simp; done) | (simp; omega))]; first | assumption | (simp [go_sem, *]; done)
  have c1_1_4 : w4.cell? ⟨w3.heap.size, 1, none⟩ = some (.int .i64 s) := by rw [cc _ _ (by first | omega | (simp; done) | (simp; omega))]; first | assumption | (simp [go_sem, *]; done)
  clear cc ff hb4 lt0_3 c0_0_3 c0_1_3
  have e4 := he.stays bw4
  go_wp2_with fail
  refine (HT2.out _ (e4.stays (by go_grown)).tabs).mono ?_; rintro e w5 ⟨rfl, hb5⟩
  obtain ⟨cc, ff⟩ := bcell hb5
  have sz5 : w4.heap.size + 1 ≤ w5.heap.size := by have := hb5.size; first | exact this | (simp at this; omega)
  have bw5 : Below w.heap.size w w5 := by
    refine Below.trans ?_ (hb5.mono (by first | omega | (simp; done) | (simp; omega)))
    go_grown
  have lt0_5 : w.heap.size < w5.heap.size := by omega
  have c0_0_5 : w5.cell? ⟨w.heap.size, 0, none⟩ = some (.int .i64 m) := by rw [cc _ _ (by first | omega | (simp; done) | (simp; omega))]; first | assumption | (simp [go_sem, *]; done)
  have c0_1_5 : w5.cell? ⟨w.heap.size, 1, none⟩ = some (.int .i64 s) := by rw [cc _ _ (by first | omega | (simp; done) | (simp; omega))]; first | assumption | (simp [go_sem, *]; done)
  have lt1_5 : w3.heap.size < w5.heap.size := by omega
  have c1_0_5 : w5.cell? ⟨w3.heap.size, 0, none⟩ = some (.int .i64 m) := by rw [cc _ _ (by first | omega | (simp; done) | (simp; omega))]; first | assumption | (simp [go_sem, *]; done)
  have c1_1_5 : w5.cell? ⟨w3.heap.size, 1, none⟩ = some (.int .i64 s) := by rw [cc _ _ (by first | omega | (simp; done) | (simp; omega))]; first | assumption | (simp [go_sem, *]; done)
  have lt2_5 : w4.heap.size < w5.heap.size := by omega
  have c2_0_5 : w5.cell? ⟨w4.heap.size, 0, none⟩ = some (.int .i64 y1) := by rw [cc _ _ (by first | omega | (simp; done) | (simp; omega))]; first | assumption | (simp [go_sem, *]; done)
  have c2_1_5 : w5.cell? ⟨w4.heap.size, 1, none⟩ = some (.int .i64 y2) := by rw [cc _ _ (by first | omega | (simp; done) | (simp; omega))]; first | assumption | (simp [go_sem, *]; done)
  clear cc ff hb5 lt0_4 c0_0_4 c0_1_4 lt1_4 c1_0_4 c1_1_4
  have e5 := he.stays bw5
  go_wp2_with fail
  refine (HP3.out _ e5).mono ?_; rintro e w6 ⟨rfl, hb6⟩
  obtain ⟨cc, ff⟩ := bcell hb6
  have sz6 : w5.heap.size ≤ w6.heap.size := by have := hb6.size; first | exact this | (simp at this; omega)
  have bw6 : Below w.heap.size w w6 := by
    refine Below.trans ?_ (hb6.mono (by first | omega | (simp; done) | (simp; omega)))
    go_grown
  have lt0_6 : w.heap.size < w6.heap.size := by omega
  have c0_0_6 : w6.cell? ⟨w.heap.size, 0, none⟩ = some (.int .i64 m) := by rw [cc _ _ (by first | omega | (simp; done) | (simp; omega))]; first | assumption | (simp [go_sem, *]; done)
  have c0_1_6 : w6.cell? ⟨w.heap.size, 1, none⟩ = some (.int .i64 s) := by rw [cc _ _ (by first | omega | (simp; done) | (simp; omega))]; first | assumption | (simp [go_sem, *]; done)
  have lt1_6 : w3.heap.size < w6.heap.size := by omega
  have c1_0_6 : w6.cell? ⟨w3.heap.size, 0, none⟩ = some (.int .i64 m) := by rw [cc _ _ (by first | omega | (simp; done) | (simp; omega))]; first | assumption | (simp [go_sem, *]; done)
  have c1_1_6 : w6.cell? ⟨w3.heap.size, 1, none⟩ = some (.int .i64 s) := by rw [cc _ _ (by first | omega | (simp; done) | (simp; omega))]; first | assumption | (simp [go_sem, *]; done)
  have lt2_6 : w4.heap.size < w6.heap.size := by omega
  have c2_0_6 : w6.cell? ⟨w4.heap.size, 0, none⟩ = some (.int .i64 y1) := by rw [cc _ _ (by first | omega | (simp; done) | (simp; omega))]; first | assumption | (simp [go_sem, *]; done)
  have c2_1_6 : w6.cell? ⟨w4.heap.size, 1, none⟩ = some (.int .i64 y2) := by rw [cc _ _ (by first | omega | (simp; done) | (simp; omega))]; first | assumption | (simp [go_sem, *]; done)
  clear cc ff hb6 lt0_5 c0_0_5 c0_1_5 lt1_5 c1_0_5 c1_1_5 lt2_5 c2_0_5 c2_1_5
  go_wp2_with fail
  go_ret
  refine ⟨rfl, ?_⟩
  go_grown
set_option maxRecDepth 100000 in
set_option maxHeartbeats 1000000 in
theorem back_ok_ok (m s : Int) (sB tB uB : ByteArray) (x y f y1 y2 z1 z2 h i : Int) (w : World) (he : Env w) (hs : sB.size ≤ 2000) (hu : uB.size ≤ 100000)
    (HT1 : Hid (∀ w, EnvT w → Calls Tryd.prog 9 #[.agg #[.int .i64 m, .int .i64 s]] w fun e w' => e = .returned (.tuple #[.string tB, .int .i64 0]) ∧ Below w.heap.size w w')) (HP1 : Hid (∀ w, Env w → Calls Tryd.prog 19 #[.string tB] w fun e w' => e = .returned (.tuple #[.agg #[.int .i64 m, .int .i64 s], .int .i64 0]) ∧ Below w.heap.size w w'))
    (HP2 : Hid (∀ w, Env w → Calls Tryd.prog 19 #[.string sB] w fun e w' => e = .returned (.tuple #[.agg #[.int .i64 y1, .int .i64 y2], .int .i64 0]) ∧ Below w.heap.size w w')) (HT2 : Hid (∀ w, EnvT w → Calls Tryd.prog 9 #[.agg #[.int .i64 y1, .int .i64 y2]] w fun e w' => e = .returned (.tuple #[.string uB, .int .i64 0]) ∧ Below w.heap.size w w')) (HP3 : Hid (∀ w, Env w → Calls Tryd.prog 19 #[.string uB] w fun e w' => e = .returned (.tuple #[.agg #[.int .i64 y1, .int .i64 y2], .int .i64 0]) ∧ Below w.heap.size w w')) (h3 : uB.size ≤ sB.size) :
    Calls Tryd.prog 6 #[.agg #[.int .i64 m, .int .i64 s], .string sB] w fun e w' => e = .returned (.bool true) ∧ Below w.heap.size w w' := by
  have HA := Lib.hid (fun w he => alive_true w he)
  go_enter Tryd.func6, Tryd.ntmps6
  go_wp2_with fail
  refine (HA.out _ (he.stays (by go_grown))).mono ?_; rintro e w1 ⟨rfl, hb1⟩
  obtain ⟨cc, ff⟩ := bcell hb1
  have sz1 : w.heap.size + 1 ≤ w1.heap.size := by have := hb1.size; first | exact this | (simp at this; omega)
  have bw1 : Below w.heap.size w w1 := by
    refine Below.trans ?_ (hb1.mono (by first | omega | (simp; done) | (simp; omega)))
    go_grown
  have lt0_1 : w.heap.size < w1.heap.size := by omega
  have c0_0_1 : w1.cell? ⟨w.heap.size, 0, none⟩ = some (.int .i64 m) := by rw [cc _ _ (by first | omega | (simp; done) | (simp; omega))]; first | assumption | (simp [go_sem, *]; done)
  have c0_1_1 : w1.cell? ⟨w.heap.size, 1, none⟩ = some (.int .i64 s) := by rw [cc _ _ (by first | omega | (simp; done) | (simp; omega))]; first | assumption | (simp [go_sem, *]; done)
  clear cc ff hb1
  have e1 := he.stays bw1
  go_wp2_with fail
  refine (HT1.out _ e1.tabs).mono ?_; rintro e w2 ⟨rfl, hb2⟩
  obtain ⟨cc, ff⟩ := bcell hb2
  have sz2 : w1.heap.size ≤ w2.heap.size := by have := hb2.size; first | exact this | (simp at this; omega)
  have bw2 : Below w.heap.size w w2 := by
    refine Below.trans ?_ (hb2.mono (by first | omega | (simp; done) | (simp; omega)))
    go_grown
  have lt0_2 : w.heap.size < w2.heap.size := by omega
  have c0_0_2 : w2.cell? ⟨w.heap.size, 0, none⟩ = some (.int .i64 m) := by rw [cc _ _ (by first | omega | (simp; done) | (simp; omega))]; first | assumption | (simp [go_sem, *]; done)
  have c0_1_2 : w2.cell? ⟨w.heap.size, 1, none⟩ = some (.int .i64 s) := by rw [cc _ _ (by first | omega | (simp; done) | (simp; omega))]; first | assumption | (simp [go_sem, *]; done)
  clear cc ff hb2 lt0_1 c0_0_1 c0_1_1
  have e2 := he.stays bw2
  go_wp2_with fail
  refine (HP1.out _ e2).mono ?_; rintro e w3 ⟨rfl, hb3⟩
  obtain ⟨cc, ff⟩ := bcell hb3
  have sz3 : w2.heap.size ≤ w3.heap.size := by have := hb3.size; first | exact this | (simp at this; omega)
  have bw3 : Below w.heap.size w w3 := by
    refine Below.trans ?_ (hb3.mono (by first | omega | (simp; done) | (simp; omega)))
    go_grown
  have lt0_3 : w.heap.size < w3.heap.size := by omega
  have c0_0_3 : w3.cell? ⟨w.heap.size, 0, none⟩ = some (.int .i64 m) := by rw [cc _ _ (by first | omega | (simp; done) | (simp; omega))]; first | assumption | (simp [go_sem, *]; done)
  have c0_1_3 : w3.cell? ⟨w.heap.size, 1, none⟩ = some (.int .i64 s) := by rw [cc _ _ (by first | omega | (simp; done) | (simp; omega))]; first | assumption | (simp [go_sem, *]; done)
  clear cc ff hb3 lt0_2 c0_0_2 c0_1_2
  have e3 := he.stays bw3
  go_wp2_with fail
  refine (HP2.out _ (e3.stays (by go_grown))).mono ?_; rintro e w4 ⟨rfl, hb4⟩
  obtain ⟨cc, ff⟩ := bcell hb4
  have sz4 : w3.heap.size + 1 ≤ w4.heap.size := by have := hb4.size; first | exact this | (simp at this; omega)
  have bw4 : Below w.heap.size w w4 := by
    refine Below.trans ?_ (hb4.mono (by first | omega | (simp; done) | (simp; omega)))
    go_grown
  have lt0_4 : w.heap.size < w4.heap.size := by omega
  have c0_0_4 : w4.cell? ⟨w.heap.size, 0, none⟩ = some (.int .i64 m) := by rw [cc _ _ (by first | omega | (simp; done) | (simp; omega))]; first | assumption | (simp [go_sem, *]; done)
  have c0_1_4 : w4.cell? ⟨w.heap.size, 1, none⟩ = some (.int .i64 s) := by rw [cc _ _ (by first | omega | (simp; done) | (simp; omega))]; first | assumption | (simp [go_sem, *]; done)
  have lt1_4 : w3.heap.size < w4.heap.size := by omega
  have c1_0_4 : w4.cell? ⟨w3.heap.size, 0, none⟩ = some (.int .i64 m) := by rw [cc _ _ (by first | omega | (simp; done) | (simp; omega))]; first | assumption | (simp [go_sem, *]; done)
  have c1_1_4 : w4.cell? ⟨w3.heap.size, 1, none⟩ = some (.int .i64 s) := by rw [cc _ _ (by first | omega | (simp; done) | (simp; omega))]; first | assumption | (simp [go_sem, *]; done)
  clear cc ff hb4 lt0_3 c0_0_3 c0_1_3
  have e4 := he.stays bw4
  go_wp2_with fail
  refine (HT2.out _ (e4.stays (by go_grown)).tabs).mono ?_; rintro e w5 ⟨rfl, hb5⟩
  obtain ⟨cc, ff⟩ := bcell hb5
  have sz5 : w4.heap.size + 1 ≤ w5.heap.size := by have := hb5.size; first | exact this | (simp at this; omega)
  have bw5 : Below w.heap.size w w5 := by
    refine Below.trans ?_ (hb5.mono (by first | omega | (simp; done) | (simp; omega)))
    go_grown
  have lt0_5 : w.heap.size < w5.heap.size := by omega
  have c0_0_5 : w5.cell? ⟨w.heap.size, 0, none⟩ = some (.int .i64 m) := by rw [cc _ _ (by first | omega | (simp; done) | (simp; omega))]; first | assumption | (simp [go_sem, *]; done)
  have c0_1_5 : w5.cell? ⟨w.heap.size, 1, none⟩ = some (.int .i64 s) := by rw [cc _ _ (by first | omega | (simp; done) | (simp; omega))]; first | assumption | (simp [go_sem, *]; done)
  have lt1_5 : w3.heap.size < w5.heap.size := by omega
  have c1_0_5 : w5.cell? ⟨w3.heap.size, 0, none⟩ = some (.int .i64 m) := by rw [cc _ _ (by first | omega | (simp; done) | (simp; omega))]; first | assumption | (simp [go_sem, *]; done)
  have c1_1_5 : w5.cell? ⟨w3.heap.size, 1, none⟩ = some (.int .i64 s) := by rw [cc _ _ (by first | omega | (simp; done) | (simp; omega))]; first | assumption | (simp [go_sem, *]; done)
  have lt2_5 : w4.heap.size < w5.heap.size := by omega
  have c2_0_5 : w5.cell? ⟨w4.heap.size, 0, none⟩ = some (.int .i64 y1) := by rw [cc _ _ (by first | omega | (simp; done) | (simp; omega))]; first | assumption | (simp [go_sem, *]; done)
  have c2_1_5 : w5.cell? ⟨w4.heap.size, 1, none⟩ = some (.int .i64 y2) := by rw [cc _ _ (by first | omega | (simp; done) | (simp; omega))]; first | assumption | (simp [go_sem, *]; done)
  clear cc ff hb5 lt0_4 c0_0_4 c0_1_4 lt1_4 c1_0_4 c1_1_4
  have e5 := he.stays bw5
  go_wp2_with fail
  refine (HP3.out _ e5).mono ?_; rintro e w6 ⟨rfl, hb6⟩
  obtain ⟨cc, ff⟩ := bcell hb6
  have sz6 : w5.heap.size ≤ w6.heap.size := by have := hb6.size; first | exact this | (simp at this; omega)
  have bw6 : Below w.heap.size w w6 := by
    refine Below.trans ?_ (hb6.mono (by first | omega | (simp; done) | (simp; omega)))
    go_grown
  have lt0_6 : w.heap.size < w6.heap.size := by omega
  have c0_0_6 : w6.cell? ⟨w.heap.size, 0, none⟩ = some (.int .i64 m) := by rw [cc _ _ (by first | omega | (simp; done) | (simp; omega))]; first | assumption | (simp [go_sem, *]; done)
  have c0_1_6 : w6.cell? ⟨w.heap.size, 1, none⟩ = some (.int .i64 s) := by rw [cc _ _ (by first | omega | (simp; done) | (simp; omega))]; first | assumption | (simp [go_sem, *]; done)
  have lt1_6 : w3.heap.size < w6.heap.size := by omega
  have c1_0_6 : w6.cell? ⟨w3.heap.size, 0, none⟩ = some (.int .i64 m) := by rw [cc _ _ (by first | omega | (simp; done) | (simp; omega))]; first | assumption | (simp [go_sem, *]; done)
  have c1_1_6 : w6.cell? ⟨w3.heap.size, 1, none⟩ = some (.int .i64 s) := by rw [cc _ _ (by first | omega | (simp; done) | (simp; omega))]; first | assumption | (simp [go_sem, *]; done)
  have lt2_6 : w4.heap.size < w6.heap.size := by omega
  have c2_0_6 : w6.cell? ⟨w4.heap.size, 0, none⟩ = some (.int .i64 y1) := by rw [cc _ _ (by first | omega | (simp; done) | (simp; omega))]; first | assumption | (simp [go_sem, *]; done)
  have c2_1_6 : w6.cell? ⟨w4.heap.size, 1, none⟩ = some (.int .i64 y2) := by rw [cc _ _ (by first | omega | (simp; done) | (simp; omega))]; first | assumption | (simp [go_sem, *]; done)
  clear cc ff hb6 lt0_5 c0_0_5 c0_1_5 lt1_5 c1_0_5 c1_1_5 lt2_5 c2_0_5 c2_1_5
  go_wp2_with fail
  go_ret
  refine ⟨rfl, ?_⟩
  go_grown
set_option maxRecDepth 100000 in
set_option maxHeartbeats 1000000 in
theorem back_long (m s : Int) (sB : ByteArray) (w : World) (he : Env w) (hs : 2000 < sB.size) (hs2 : sB.size ≤ maxLen) :
    Calls Tryd.prog 6 #[.agg #[.int .i64 m, .int .i64 s], .string sB] w fun e w' => e = .returned (.bool true) ∧ Below w.heap.size w w' := by
  unfold maxLen at hs2
  have HA := Lib.hid (fun w he => alive_true w he)
  go_enter Tryd.func6, Tryd.ntmps6
  go_wp2_with fail
  refine (HA.out _ (he.stays (by go_grown))).mono ?_; rintro e w1 ⟨rfl, hb1⟩
  go_wp2_with fail
  go_ret
  refine ⟨rfl, ?_⟩
  refine Below.trans ?_ (hb1.mono (by simp))
  go_grown
theorem pM_R (l : List UInt8) : R (pM l) ∧ R (pS l) := by
  cases h : parseOk l with
  | false =>
    obtain ⟨e1, e2, _⟩ := p_bad l h
    rw [e1, e2]; unfold R; omega
  | true =>
    obtain ⟨h1, h2, _⟩ := parse_may l h
    have := may_bd h1
    exact ⟨h2, by unfold R; omega⟩
theorem tx_len (m s : Int) (hm : R m) : (tx m s).length ≤ 100 := by
  unfold tx
  cases h : may m s with
  | false => simp
  | true =>
    have hb := may_bd h
    have hd := dec_le m hm
    simp only [if_true]
    rw [txt_len]
    have h1 : (if m < 0 then 1 else 0 : Nat) ≤ 1 := by split <;> omega
    have h2 : (if s.toNat = 0 then 0 else 1 : Nat) ≤ 1 := by split <;> omega
    have h3 : (if (Lib.decDigits m.natAbs).length ≤ s.toNat then s.toNat + 1 else (Lib.decDigits m.natAbs).length) ≤ 20 := by split <;> omega
    omega
theorem back_walk (m s : Int) (hm : R m) (hs : R s) (sB : ByteArray) (hsz : sB.size ≤ maxLen) (w : World) (he : Env w) :
    Calls Tryd.prog 6 #[.agg #[.int .i64 m, .int .i64 s], .string sB] w fun e w' => e = .returned (.bool true) ∧ Below w.heap.size w w' := by
  by_cases hlong : 2000 < sB.size
  · exact back_long m s sB w he hlong hsz
  have hl : sB.size ≤ 2000 := by omega
  have HT1 := Lib.hid (fun w he => mtext_any m s hm hs w he)
  have HP1 := Lib.hid (fun w he => mparse_any ⟨(tx m s).toArray⟩ (by rw [size_mk]; have := tx_len m s hm; omega) w he)
  have HP2 := Lib.hid (fun w he => mparse_any sB (by omega) w he)
  obtain ⟨r1, r2⟩ := pM_R sB.data.toList
  have HT2 := Lib.hid (fun w he => mtext_any (pM sB.data.toList) (pS sB.data.toList) r1 r2 w he)
  have hu := tx_len (pM sB.data.toList) (pS sB.data.toList) r1
  have hus : (⟨(tx (pM sB.data.toList) (pS sB.data.toList)).toArray⟩ : ByteArray).size ≤ 100000 := by rw [size_mk]; omega
  have HP3 := Lib.hid (fun w he => mparse_any ⟨(tx (pM sB.data.toList) (pS sB.data.toList)).toArray⟩ (by omega) w he)
  rw [show (⟨(tx m s).toArray⟩ : ByteArray).data.toList = tx m s from rfl] at HP1
  rw [show (⟨(tx (pM sB.data.toList) (pS sB.data.toList)).toArray⟩ : ByteArray).data.toList = tx (pM sB.data.toList) (pS sB.data.toList) from rfl] at HP3
  cases h1 : may m s with
  | false =>
    have e1 : tx m s = [] := by unfold tx; rw [h1]; rfl
    have e2 : chk m s = 140 := by unfold chk; rw [h1]; rfl
    rw [e2] at HT1
    have t1 : (⟨(tx m s).toArray⟩ : ByteArray).toList = [] := by rw [toList_mk, e1]
    have t2 : (⟨(tx m s).toArray⟩ : ByteArray).toList.isEmpty = true := by rw [t1]; rfl
    cases h2 : parseOk sB.data.toList with
    | false =>
      rw [(p_bad _ h2).2.2] at HP2
      exact back_bad_bad m s sB _ _ _ _ _ _ _ _ _ _ _ w he hl hus HT1 HP1 t1 t2 HP2 HT2 HP3
    | true =>
      obtain ⟨q1, q2, q3⟩ := parse_may _ h2
      have hq := may_bd q1
      rw [(p_fine _ h2).2.2] at HP2
      have c1 : chk (pM sB.data.toList) (pS sB.data.toList) = 0 := by unfold chk; rw [q1]; rfl
      have c2 : tx (pM sB.data.toList) (pS sB.data.toList) = txt (pM sB.data.toList) (pS sB.data.toList).toNat := by unfold tx; rw [q1]; rfl
      obtain ⟨d1, d2, d3⟩ := parse_txt (pM sB.data.toList) (pS sB.data.toList).toNat q2 (by rw [Int.toNat_of_nonneg hq.1]; exact q1)
      rw [c1] at HT2
      have hsz3 : (⟨(tx (pM sB.data.toList) (pS sB.data.toList)).toArray⟩ : ByteArray).size ≤ sB.size := by rw [size_mk, c2]; rw [Array.length_toList] at q3; exact q3
      rw [← c2] at d1 d2 d3
      rw [Int.toNat_of_nonneg hq.1] at d2
      rw [d1, d2, d3] at HP3
      exact back_bad_ok m s sB _ _ _ _ _ _ _ 0 0 0 0 w he hl hus HT1 HP1 t1 t2 HP2 HT2 HP3 hsz3
  | true =>
    have e1 : tx m s = txt m s.toNat := by unfold tx; rw [h1]; rfl
    have e2 : chk m s = 0 := by unfold chk; rw [h1]; rfl
    have hb := may_bd h1
    rw [e2] at HT1
    obtain ⟨g1, g2, g3⟩ := parse_txt m s.toNat hm (by rw [Int.toNat_of_nonneg hb.1]; exact h1)
    rw [← e1] at g1 g2 g3
    rw [Int.toNat_of_nonneg hb.1] at g2
    rw [g1, g2, g3] at HP1
    cases h2 : parseOk sB.data.toList with
    | false =>
      rw [(p_bad _ h2).2.2] at HP2
      exact back_ok_bad m s sB _ _ 0 0 0 _ _ _ _ _ _ w he hl hus HT1 HP1 HP2 HT2 HP3
    | true =>
      obtain ⟨q1, q2, q3⟩ := parse_may _ h2
      have hq := may_bd q1
      rw [(p_fine _ h2).2.2] at HP2
      have c1 : chk (pM sB.data.toList) (pS sB.data.toList) = 0 := by unfold chk; rw [q1]; rfl
      have c2 : tx (pM sB.data.toList) (pS sB.data.toList) = txt (pM sB.data.toList) (pS sB.data.toList).toNat := by unfold tx; rw [q1]; rfl
      obtain ⟨d1, d2, d3⟩ := parse_txt (pM sB.data.toList) (pS sB.data.toList).toNat q2 (by rw [Int.toNat_of_nonneg hq.1]; exact q1)
      rw [c1] at HT2
      have hsz3 : (⟨(tx (pM sB.data.toList) (pS sB.data.toList)).toArray⟩ : ByteArray).size ≤ sB.size := by rw [size_mk, c2]; rw [Array.length_toList] at q3; exact q3
      rw [← c2] at d1 d2 d3
      rw [Int.toNat_of_nonneg hq.1] at d2
      rw [d1, d2, d3] at HP3
      exact back_ok_ok m s sB _ _ 0 0 0 _ _ 0 0 0 0 w he hl hus HT1 HP1 HP2 HT2 HP3 hsz3
end Go.Proofs.YtfhgcpmadajbdaaDoor
