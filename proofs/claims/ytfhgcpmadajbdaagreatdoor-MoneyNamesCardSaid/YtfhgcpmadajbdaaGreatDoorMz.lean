/- The walk through the law on the limits and the chapter's examples (provostlaw14.MoneyNames). -/
import Derived.Test.YtfhgcpmadajbdaaGreatDoorMk
import Derived.Test.YtfhgcpmadajbdaaGreatDoorMh
import Derived.Test.YtfhgcpmadajbdaaGreatDoorMn
set_option linter.unusedSimpArgs false
set_option linter.unusedVariables false
namespace Go.Proofs.YtfhgcpmadajbdaaGreatDoor
open Go.RowKit
theorem Env.tabs {w : World} (h : Env w) : EnvT w := h.tab
theorem Env.drew {w : World} (h : Env w) : Env w.drew := h.stays ((Below.refl _ _).drew)
theorem envOf {W : World} {b : Nat} {x y : Value} {w : World} (h : W.cell? ⟨b, 0, none⟩ = some x ∧ W.cell? ⟨b, 1, none⟩ = some y ∧ b < W.heap.size ∧ Env W ∧ Below w.heap.size w W) : Env W := h.2.2.2.1
theorem keepE {w W w1 : World} {b : Nat} {x y : Value} (hb : Below W.heap.size W w1) (h : W.cell? ⟨b, 0, none⟩ = some x ∧ W.cell? ⟨b, 1, none⟩ = some y ∧ b < W.heap.size ∧ Env W ∧ Below w.heap.size w W) :
    w1.cell? ⟨b, 0, none⟩ = some x ∧ w1.cell? ⟨b, 1, none⟩ = some y ∧ b < w1.heap.size ∧ Env w1 ∧ Below w.heap.size w w1 := by
  obtain ⟨h0, h1, h2, h3, h4⟩ := h
  exact ⟨(hb.cell (p := ⟨b, 0, none⟩) h2).trans h0, (hb.cell (p := ⟨b, 1, none⟩) h2).trans h1, Nat.lt_of_lt_of_le h2 hb.size, h3.stays hb, h4.trans (hb.mono h4.size)⟩
set_option maxRecDepth 100000 in
set_option maxHeartbeats 2000000 in
theorem names_walk (w : World) (he : Env w) :
    Calls Tryz.prog 3 #[] w fun e w' => e = .returned (.bool true) ∧ Below w.heap.size w w' := by
  have H1 : Hid (∀ w, EnvT w → Calls Tryz.prog 4 #[.agg #[.int .i64 (-5), .int .i64 3]] w fun e w' => e = .returned (.tuple #[.string ⟨#[45, 48, 46, 48, 48, 53]⟩, .int .i64 0]) ∧ Below w.heap.size w w') := Lib.hid fun w he => by
    have := mtext_any (-5) 3 (by unfold R; omega) (by unfold R; omega) w he
    rw [show tx (-5) 3 = [45, 48, 46, 48, 48, 53] by decide +kernel, show chk (-5) 3 = 0 by decide +kernel] at this
    exact this
  have H2 : Hid (∀ w, EnvT w → Calls Tryz.prog 4 #[.agg #[.int .i64 1200, .int .i64 0]] w fun e w' => e = .returned (.tuple #[.string ⟨#[49, 50, 48, 48]⟩, .int .i64 0]) ∧ Below w.heap.size w w') := Lib.hid fun w he => by
    have := mtext_any 1200 0 (by unfold R; omega) (by unfold R; omega) w he
    rw [show tx 1200 0 = [49, 50, 48, 48] by decide +kernel, show chk 1200 0 = 0 by decide +kernel] at this
    exact this
  have H3 : Hid (∀ w, Calls Tryz.prog 6 #[.agg #[.int .i64 1, .int .i64 1], .agg #[.int .i64 9, .int .i64 1]] w fun e w' => e = .returned (.tuple #[.agg #[.int .i64 1, .int .i64 0], .int .i64 0]) ∧ Below w.heap.size w w') := Lib.hid fun w => by
    have := madd_any 1 1 9 1 (by unfold R; omega) (by unfold R; omega) (by unfold R; omega) (by unfold R; omega) w
    rw [show addM 1 1 9 1 = 1 by decide +kernel, show addS 1 1 9 1 = 0 by decide +kernel, show addE 1 1 9 1 = 0 by decide +kernel] at this
    exact this
  have H4 : Hid (∀ w, Calls Tryz.prog 6 #[.agg #[.int .i64 9223372036854775807, .int .i64 0], .agg #[.int .i64 1, .int .i64 1]] w fun e w' => e = .returned (.tuple #[.agg #[.int .i64 0, .int .i64 0], .int .i64 20]) ∧ Below w.heap.size w w') := Lib.hid fun w => by
    have := madd_any 9223372036854775807 0 1 1 (by unfold R; omega) (by unfold R; omega) (by unfold R; omega) (by unfold R; omega) w
    rw [show addM 9223372036854775807 0 1 1 = 0 by decide +kernel, show addS 9223372036854775807 0 1 1 = 0 by decide +kernel, show addE 9223372036854775807 0 1 1 = 20 by decide +kernel] at this
    exact this
  have H5 : Hid (∀ w, Calls Tryz.prog 7 #[.agg #[.int .i64 2, .int .i64 1], .agg #[.int .i64 15, .int .i64 2]] w fun e w' => e = .returned (.tuple #[.int .i64 1, .int .i64 0]) ∧ Below w.heap.size w w') := Lib.hid fun w => by
    have := mcmp_any 2 1 15 2 (by unfold R; omega) (by unfold R; omega) (by unfold R; omega) (by unfold R; omega) w
    rw [show cmpV 2 1 15 2 = 1 by decide +kernel, show cmpE 2 1 15 2 = 0 by decide +kernel] at this
    exact this
  have H6 : Hid (∀ w, Calls Tryz.prog 7 #[.agg #[.int .i64 10, .int .i64 0], .agg #[.int .i64 100, .int .i64 1]] w fun e w' => e = .returned (.tuple #[.int .i64 0, .int .i64 140]) ∧ Below w.heap.size w w') := Lib.hid fun w => by
    have := mcmp_any 10 0 100 1 (by unfold R; omega) (by unfold R; omega) (by unfold R; omega) (by unfold R; omega) w
    rw [show cmpV 10 0 100 1 = 0 by decide +kernel, show cmpE 10 0 100 1 = 140 by decide +kernel] at this
    exact this
  have HO := Lib.hid (fun n w => mof_any n w)
  have HL := Lib.hid (fun w he => alive_true w he)
  have HR := Lib.hid (fun w he => reads_true ⟨#[57, 50, 50, 51, 51, 55, 50, 48, 51, 54, 56, 53, 52, 55, 55, 53, 56, 48, 55]⟩ 9223372036854775807 0 (by decide) (by decide +kernel) (by decide +kernel) (by decide +kernel) w he)
  have N0 := Lib.hid (fun w he => none_true ⟨#[48, 46, 57, 50, 50, 51, 51, 55, 50, 48, 51, 54, 56, 53, 52, 55, 55, 53, 56, 48, 56]⟩ (by decide) (by decide +kernel) w he)
  have N1 := Lib.hid (fun w he => none_true ⟨#[]⟩ (by decide) (by decide +kernel) w he)
  have N2 := Lib.hid (fun w he => none_true ⟨#[45]⟩ (by decide) (by decide +kernel) w he)
  have N3 := Lib.hid (fun w he => none_true ⟨#[46, 53]⟩ (by decide) (by decide +kernel) w he)
  have N4 := Lib.hid (fun w he => none_true ⟨#[49, 46, 48, 48, 48, 48, 48, 48, 48, 48, 48, 48, 48, 48, 48, 48, 48, 48, 48, 48, 48]⟩ (by decide) (by decide +kernel) w he)
  have N5 := Lib.hid (fun w he => none_true ⟨#[43, 49]⟩ (by decide) (by decide +kernel) w he)
  have N6 := Lib.hid (fun w he => none_true ⟨#[45, 45, 49]⟩ (by decide) (by decide +kernel) w he)
  go_enter Tryz.func3, Tryz.ntmps3
  go_wp2_with fail
  refine (H1.out _ he.tabs).mono ?_; rintro e w1 ⟨rfl, hb1⟩
  obtain ⟨cc, ff⟩ := bcell hb1
  have sz1 : w.heap.size ≤ w1.heap.size := by have := hb1.size; first | exact this | (simp at this; omega)
  have bw1 : Below w.heap.size w w1 := by
    refine Below.trans ?_ (hb1.mono (by first | omega | (simp; done) | (simp; omega)))
    go_grown
  clear cc ff hb1
  have e1 := he.stays bw1
  go_wp2_with fail
  refine (HO.out _ _).mono ?_; rintro e w2 ⟨rfl, hb2⟩
  obtain ⟨cc, ff⟩ := bcell hb2
  have sz2 : w1.heap.size ≤ w2.heap.size := by have := hb2.size; first | exact this | (simp at this; omega)
  have bw2 : Below w.heap.size w w2 := by
    refine Below.trans ?_ (hb2.mono (by first | omega | (simp; done) | (simp; omega)))
    go_grown
  clear cc ff hb2
  have e2 := he.stays bw2
  go_wp2_with fail
  refine (H2.out _ e2.tabs).mono ?_; rintro e w3 ⟨rfl, hb3⟩
  obtain ⟨cc, ff⟩ := bcell hb3
  have sz3 : w2.heap.size ≤ w3.heap.size := by have := hb3.size; first | exact this | (simp at this; omega)
  have bw3 : Below w.heap.size w w3 := by
    refine Below.trans ?_ (hb3.mono (by first | omega | (simp; done) | (simp; omega)))
    go_grown
  clear cc ff hb3
  go_wp2_with fail
  refine (H3.out _).mono ?_; rintro e w4 ⟨rfl, hb4⟩
  obtain ⟨cc, ff⟩ := bcell hb4
  have sz4 : w3.heap.size ≤ w4.heap.size := by have := hb4.size; first | exact this | (simp at this; omega)
  have bw4 : Below w.heap.size w w4 := by
    refine Below.trans ?_ (hb4.mono (by first | omega | (simp; done) | (simp; omega)))
    go_grown
  clear cc ff hb4
  go_wp2_with fail
  refine (HO.out _ _).mono ?_; rintro e w5 ⟨rfl, hb5⟩
  obtain ⟨cc, ff⟩ := bcell hb5
  have sz5 : w4.heap.size + 1 ≤ w5.heap.size := by have := hb5.size; first | exact this | (simp at this; omega)
  have bw5 : Below w.heap.size w w5 := by
    refine Below.trans ?_ (hb5.mono (by first | omega | (simp; done) | (simp; omega)))
    go_grown
  have lt0_5 : w4.heap.size < w5.heap.size := by omega
  have c0_0_5 : w5.cell? ⟨w4.heap.size, 0, none⟩ = some (.int .i64 1) := by rw [cc _ _ (by first | omega | (simp; done) | (simp; omega))]; first | assumption | (simp [go_sem, *]; done)
  have c0_1_5 : w5.cell? ⟨w4.heap.size, 1, none⟩ = some (.int .i64 0) := by rw [cc _ _ (by first | omega | (simp; done) | (simp; omega))]; first | assumption | (simp [go_sem, *]; done)
  clear cc ff hb5
  go_wp2_with fail
  refine (H4.out _).mono ?_; rintro e w6 ⟨rfl, hb6⟩
  obtain ⟨cc, ff⟩ := bcell hb6
  have sz6 : w5.heap.size ≤ w6.heap.size := by have := hb6.size; first | exact this | (simp at this; omega)
  have bw6 : Below w.heap.size w w6 := by
    refine Below.trans ?_ (hb6.mono (by first | omega | (simp; done) | (simp; omega)))
    go_grown
  have lt0_6 : w4.heap.size < w6.heap.size := by omega
  have c0_0_6 : w6.cell? ⟨w4.heap.size, 0, none⟩ = some (.int .i64 1) := by rw [cc _ _ (by first | omega | (simp; done) | (simp; omega))]; first | assumption | (simp [go_sem, *]; done)
  have c0_1_6 : w6.cell? ⟨w4.heap.size, 1, none⟩ = some (.int .i64 0) := by rw [cc _ _ (by first | omega | (simp; done) | (simp; omega))]; first | assumption | (simp [go_sem, *]; done)
  clear cc ff hb6 lt0_5 c0_0_5 c0_1_5
  go_wp2_with fail
  refine (H5.out _).mono ?_; rintro e w7 ⟨rfl, hb7⟩
  obtain ⟨cc, ff⟩ := bcell hb7
  have sz7 : w6.heap.size + 1 ≤ w7.heap.size := by have := hb7.size; first | exact this | (simp at this; omega)
  have bw7 : Below w.heap.size w w7 := by
    refine Below.trans ?_ (hb7.mono (by first | omega | (simp; done) | (simp; omega)))
    go_grown
  have lt0_7 : w4.heap.size < w7.heap.size := by omega
  have c0_0_7 : w7.cell? ⟨w4.heap.size, 0, none⟩ = some (.int .i64 1) := by rw [cc _ _ (by first | omega | (simp; done) | (simp; omega))]; first | assumption | (simp [go_sem, *]; done)
  have c0_1_7 : w7.cell? ⟨w4.heap.size, 1, none⟩ = some (.int .i64 0) := by rw [cc _ _ (by first | omega | (simp; done) | (simp; omega))]; first | assumption | (simp [go_sem, *]; done)
  have lt1_7 : w6.heap.size < w7.heap.size := by omega
  have c1_0_7 : w7.cell? ⟨w6.heap.size, 0, none⟩ = some (.int .i64 0) := by rw [cc _ _ (by first | omega | (simp; done) | (simp; omega))]; first | assumption | (simp [go_sem, *]; done)
  have c1_1_7 : w7.cell? ⟨w6.heap.size, 1, none⟩ = some (.int .i64 0) := by rw [cc _ _ (by first | omega | (simp; done) | (simp; omega))]; first | assumption | (simp [go_sem, *]; done)
  clear cc ff hb7 lt0_6 c0_0_6 c0_1_6
  go_wp2_with fail
  refine (HO.out _ _).mono ?_; rintro e w8 ⟨rfl, hb8⟩
  obtain ⟨cc, ff⟩ := bcell hb8
  have sz8 : w7.heap.size ≤ w8.heap.size := by have := hb8.size; first | exact this | (simp at this; omega)
  have bw8 : Below w.heap.size w w8 := by
    refine Below.trans ?_ (hb8.mono (by first | omega | (simp; done) | (simp; omega)))
    go_grown
  have lt0_8 : w4.heap.size < w8.heap.size := by omega
  have c0_0_8 : w8.cell? ⟨w4.heap.size, 0, none⟩ = some (.int .i64 1) := by rw [cc _ _ (by first | omega | (simp; done) | (simp; omega))]; first | assumption | (simp [go_sem, *]; done)
  have c0_1_8 : w8.cell? ⟨w4.heap.size, 1, none⟩ = some (.int .i64 0) := by rw [cc _ _ (by first | omega | (simp; done) | (simp; omega))]; first | assumption | (simp [go_sem, *]; done)
  have lt1_8 : w6.heap.size < w8.heap.size := by omega
  have c1_0_8 : w8.cell? ⟨w6.heap.size, 0, none⟩ = some (.int .i64 0) := by rw [cc _ _ (by first | omega | (simp; done) | (simp; omega))]; first | assumption | (simp [go_sem, *]; done)
  have c1_1_8 : w8.cell? ⟨w6.heap.size, 1, none⟩ = some (.int .i64 0) := by rw [cc _ _ (by first | omega | (simp; done) | (simp; omega))]; first | assumption | (simp [go_sem, *]; done)
  clear cc ff hb8 lt0_7 c0_0_7 c0_1_7 lt1_7 c1_0_7 c1_1_7
  go_wp2_with fail
  refine (H6.out _).mono ?_; rintro e w9 ⟨rfl, hb9⟩
  obtain ⟨cc, ff⟩ := bcell hb9
  have sz9 : w8.heap.size ≤ w9.heap.size := by have := hb9.size; first | exact this | (simp at this; omega)
  have bw9 : Below w.heap.size w w9 := by
    refine Below.trans ?_ (hb9.mono (by first | omega | (simp; done) | (simp; omega)))
    go_grown
  have lt0_9 : w4.heap.size < w9.heap.size := by omega
  have c0_0_9 : w9.cell? ⟨w4.heap.size, 0, none⟩ = some (.int .i64 1) := by rw [cc _ _ (by first | omega | (simp; done) | (simp; omega))]; first | assumption | (simp [go_sem, *]; done)
  have c0_1_9 : w9.cell? ⟨w4.heap.size, 1, none⟩ = some (.int .i64 0) := by rw [cc _ _ (by first | omega | (simp; done) | (simp; omega))]; first | assumption | (simp [go_sem, *]; done)
  have lt1_9 : w6.heap.size < w9.heap.size := by omega
  have c1_0_9 : w9.cell? ⟨w6.heap.size, 0, none⟩ = some (.int .i64 0) := by rw [cc _ _ (by first | omega | (simp; done) | (simp; omega))]; first | assumption | (simp [go_sem, *]; done)
  have c1_1_9 : w9.cell? ⟨w6.heap.size, 1, none⟩ = some (.int .i64 0) := by rw [cc _ _ (by first | omega | (simp; done) | (simp; omega))]; first | assumption | (simp [go_sem, *]; done)
  clear cc ff hb9 lt0_8 c0_0_8 c0_1_8 lt1_8 c1_0_8 c1_1_8
  have e9 := he.stays bw9
  go_wp2_with fail
  refine (HR.out _ e9).mono ?_; rintro e w10 ⟨rfl, hb10⟩
  obtain ⟨cc, ff⟩ := bcell hb10
  have sz10 : w9.heap.size ≤ w10.heap.size := by have := hb10.size; first | exact this | (simp at this; omega)
  have bw10 : Below w.heap.size w w10 := by
    refine Below.trans ?_ (hb10.mono (by first | omega | (simp; done) | (simp; omega)))
    go_grown
  have lt0_10 : w4.heap.size < w10.heap.size := by omega
  have c0_0_10 : w10.cell? ⟨w4.heap.size, 0, none⟩ = some (.int .i64 1) := by rw [cc _ _ (by first | omega | (simp; done) | (simp; omega))]; first | assumption | (simp [go_sem, *]; done)
  have c0_1_10 : w10.cell? ⟨w4.heap.size, 1, none⟩ = some (.int .i64 0) := by rw [cc _ _ (by first | omega | (simp; done) | (simp; omega))]; first | assumption | (simp [go_sem, *]; done)
  have lt1_10 : w6.heap.size < w10.heap.size := by omega
  have c1_0_10 : w10.cell? ⟨w6.heap.size, 0, none⟩ = some (.int .i64 0) := by rw [cc _ _ (by first | omega | (simp; done) | (simp; omega))]; first | assumption | (simp [go_sem, *]; done)
  have c1_1_10 : w10.cell? ⟨w6.heap.size, 1, none⟩ = some (.int .i64 0) := by rw [cc _ _ (by first | omega | (simp; done) | (simp; omega))]; first | assumption | (simp [go_sem, *]; done)
  clear cc ff hb10 lt0_9 c0_0_9 c0_1_9 lt1_9 c1_0_9 c1_1_9
  have e10 := he.stays bw10
  go_wp2_with fail
  refine (N0.out _ e10).mono ?_; rintro e w11 ⟨rfl, hb11⟩
  obtain ⟨cc, ff⟩ := bcell hb11
  have sz11 : w10.heap.size ≤ w11.heap.size := by have := hb11.size; first | exact this | (simp at this; omega)
  have bw11 : Below w.heap.size w w11 := by
    refine Below.trans ?_ (hb11.mono (by first | omega | (simp; done) | (simp; omega)))
    go_grown
  have lt0_11 : w4.heap.size < w11.heap.size := by omega
  have c0_0_11 : w11.cell? ⟨w4.heap.size, 0, none⟩ = some (.int .i64 1) := by rw [cc _ _ (by first | omega | (simp; done) | (simp; omega))]; first | assumption | (simp [go_sem, *]; done)
  have c0_1_11 : w11.cell? ⟨w4.heap.size, 1, none⟩ = some (.int .i64 0) := by rw [cc _ _ (by first | omega | (simp; done) | (simp; omega))]; first | assumption | (simp [go_sem, *]; done)
  have lt1_11 : w6.heap.size < w11.heap.size := by omega
  have c1_0_11 : w11.cell? ⟨w6.heap.size, 0, none⟩ = some (.int .i64 0) := by rw [cc _ _ (by first | omega | (simp; done) | (simp; omega))]; first | assumption | (simp [go_sem, *]; done)
  have c1_1_11 : w11.cell? ⟨w6.heap.size, 1, none⟩ = some (.int .i64 0) := by rw [cc _ _ (by first | omega | (simp; done) | (simp; omega))]; first | assumption | (simp [go_sem, *]; done)
  clear cc ff hb11 lt0_10 c0_0_10 c0_1_10 lt1_10 c1_0_10 c1_1_10
  have e11 := he.stays bw11
  go_wp2_with fail
  refine (N1.out _ e11).mono ?_; rintro e w12 ⟨rfl, hb12⟩
  obtain ⟨cc, ff⟩ := bcell hb12
  have sz12 : w11.heap.size ≤ w12.heap.size := by have := hb12.size; first | exact this | (simp at this; omega)
  have bw12 : Below w.heap.size w w12 := by
    refine Below.trans ?_ (hb12.mono (by first | omega | (simp; done) | (simp; omega)))
    go_grown
  have lt0_12 : w4.heap.size < w12.heap.size := by omega
  have c0_0_12 : w12.cell? ⟨w4.heap.size, 0, none⟩ = some (.int .i64 1) := by rw [cc _ _ (by first | omega | (simp; done) | (simp; omega))]; first | assumption | (simp [go_sem, *]; done)
  have c0_1_12 : w12.cell? ⟨w4.heap.size, 1, none⟩ = some (.int .i64 0) := by rw [cc _ _ (by first | omega | (simp; done) | (simp; omega))]; first | assumption | (simp [go_sem, *]; done)
  have lt1_12 : w6.heap.size < w12.heap.size := by omega
  have c1_0_12 : w12.cell? ⟨w6.heap.size, 0, none⟩ = some (.int .i64 0) := by rw [cc _ _ (by first | omega | (simp; done) | (simp; omega))]; first | assumption | (simp [go_sem, *]; done)
  have c1_1_12 : w12.cell? ⟨w6.heap.size, 1, none⟩ = some (.int .i64 0) := by rw [cc _ _ (by first | omega | (simp; done) | (simp; omega))]; first | assumption | (simp [go_sem, *]; done)
  clear cc ff hb12 lt0_11 c0_0_11 c0_1_11 lt1_11 c1_0_11 c1_1_11
  have e12 := he.stays bw12
  go_wp2_with fail
  refine (N2.out _ e12).mono ?_; rintro e w13 ⟨rfl, hb13⟩
  obtain ⟨cc, ff⟩ := bcell hb13
  have sz13 : w12.heap.size ≤ w13.heap.size := by have := hb13.size; first | exact this | (simp at this; omega)
  have bw13 : Below w.heap.size w w13 := by
    refine Below.trans ?_ (hb13.mono (by first | omega | (simp; done) | (simp; omega)))
    go_grown
  have lt0_13 : w4.heap.size < w13.heap.size := by omega
  have c0_0_13 : w13.cell? ⟨w4.heap.size, 0, none⟩ = some (.int .i64 1) := by rw [cc _ _ (by first | omega | (simp; done) | (simp; omega))]; first | assumption | (simp [go_sem, *]; done)
  have c0_1_13 : w13.cell? ⟨w4.heap.size, 1, none⟩ = some (.int .i64 0) := by rw [cc _ _ (by first | omega | (simp; done) | (simp; omega))]; first | assumption | (simp [go_sem, *]; done)
  have lt1_13 : w6.heap.size < w13.heap.size := by omega
  have c1_0_13 : w13.cell? ⟨w6.heap.size, 0, none⟩ = some (.int .i64 0) := by rw [cc _ _ (by first | omega | (simp; done) | (simp; omega))]; first | assumption | (simp [go_sem, *]; done)
  have c1_1_13 : w13.cell? ⟨w6.heap.size, 1, none⟩ = some (.int .i64 0) := by rw [cc _ _ (by first | omega | (simp; done) | (simp; omega))]; first | assumption | (simp [go_sem, *]; done)
  clear cc ff hb13 lt0_12 c0_0_12 c0_1_12 lt1_12 c1_0_12 c1_1_12
  have e13 := he.stays bw13
  go_wp2_with fail
  refine (N3.out _ e13).mono ?_; rintro e w14 ⟨rfl, hb14⟩
  obtain ⟨cc, ff⟩ := bcell hb14
  have sz14 : w13.heap.size ≤ w14.heap.size := by have := hb14.size; first | exact this | (simp at this; omega)
  have bw14 : Below w.heap.size w w14 := by
    refine Below.trans ?_ (hb14.mono (by first | omega | (simp; done) | (simp; omega)))
    go_grown
  have lt0_14 : w4.heap.size < w14.heap.size := by omega
  have c0_0_14 : w14.cell? ⟨w4.heap.size, 0, none⟩ = some (.int .i64 1) := by rw [cc _ _ (by first | omega | (simp; done) | (simp; omega))]; first | assumption | (simp [go_sem, *]; done)
  have c0_1_14 : w14.cell? ⟨w4.heap.size, 1, none⟩ = some (.int .i64 0) := by rw [cc _ _ (by first | omega | (simp; done) | (simp; omega))]; first | assumption | (simp [go_sem, *]; done)
  have lt1_14 : w6.heap.size < w14.heap.size := by omega
  have c1_0_14 : w14.cell? ⟨w6.heap.size, 0, none⟩ = some (.int .i64 0) := by rw [cc _ _ (by first | omega | (simp; done) | (simp; omega))]; first | assumption | (simp [go_sem, *]; done)
  have c1_1_14 : w14.cell? ⟨w6.heap.size, 1, none⟩ = some (.int .i64 0) := by rw [cc _ _ (by first | omega | (simp; done) | (simp; omega))]; first | assumption | (simp [go_sem, *]; done)
  clear cc ff hb14 lt0_13 c0_0_13 c0_1_13 lt1_13 c1_0_13 c1_1_13
  have e14 := he.stays bw14
  go_wp2_with fail
  refine (N4.out _ e14).mono ?_; rintro e w15 ⟨rfl, hb15⟩
  obtain ⟨cc, ff⟩ := bcell hb15
  have sz15 : w14.heap.size ≤ w15.heap.size := by have := hb15.size; first | exact this | (simp at this; omega)
  have bw15 : Below w.heap.size w w15 := by
    refine Below.trans ?_ (hb15.mono (by first | omega | (simp; done) | (simp; omega)))
    go_grown
  have lt0_15 : w4.heap.size < w15.heap.size := by omega
  have c0_0_15 : w15.cell? ⟨w4.heap.size, 0, none⟩ = some (.int .i64 1) := by rw [cc _ _ (by first | omega | (simp; done) | (simp; omega))]; first | assumption | (simp [go_sem, *]; done)
  have c0_1_15 : w15.cell? ⟨w4.heap.size, 1, none⟩ = some (.int .i64 0) := by rw [cc _ _ (by first | omega | (simp; done) | (simp; omega))]; first | assumption | (simp [go_sem, *]; done)
  have lt1_15 : w6.heap.size < w15.heap.size := by omega
  have c1_0_15 : w15.cell? ⟨w6.heap.size, 0, none⟩ = some (.int .i64 0) := by rw [cc _ _ (by first | omega | (simp; done) | (simp; omega))]; first | assumption | (simp [go_sem, *]; done)
  have c1_1_15 : w15.cell? ⟨w6.heap.size, 1, none⟩ = some (.int .i64 0) := by rw [cc _ _ (by first | omega | (simp; done) | (simp; omega))]; first | assumption | (simp [go_sem, *]; done)
  clear cc ff hb15 lt0_14 c0_0_14 c0_1_14 lt1_14 c1_0_14 c1_1_14
  have e15 := he.stays bw15
  go_wp2_with fail
  refine (N5.out _ e15).mono ?_; rintro e w16 ⟨rfl, hb16⟩
  obtain ⟨cc, ff⟩ := bcell hb16
  have sz16 : w15.heap.size ≤ w16.heap.size := by have := hb16.size; first | exact this | (simp at this; omega)
  have bw16 : Below w.heap.size w w16 := by
    refine Below.trans ?_ (hb16.mono (by first | omega | (simp; done) | (simp; omega)))
    go_grown
  have lt0_16 : w4.heap.size < w16.heap.size := by omega
  have c0_0_16 : w16.cell? ⟨w4.heap.size, 0, none⟩ = some (.int .i64 1) := by rw [cc _ _ (by first | omega | (simp; done) | (simp; omega))]; first | assumption | (simp [go_sem, *]; done)
  have c0_1_16 : w16.cell? ⟨w4.heap.size, 1, none⟩ = some (.int .i64 0) := by rw [cc _ _ (by first | omega | (simp; done) | (simp; omega))]; first | assumption | (simp [go_sem, *]; done)
  have lt1_16 : w6.heap.size < w16.heap.size := by omega
  have c1_0_16 : w16.cell? ⟨w6.heap.size, 0, none⟩ = some (.int .i64 0) := by rw [cc _ _ (by first | omega | (simp; done) | (simp; omega))]; first | assumption | (simp [go_sem, *]; done)
  have c1_1_16 : w16.cell? ⟨w6.heap.size, 1, none⟩ = some (.int .i64 0) := by rw [cc _ _ (by first | omega | (simp; done) | (simp; omega))]; first | assumption | (simp [go_sem, *]; done)
  clear cc ff hb16 lt0_15 c0_0_15 c0_1_15 lt1_15 c1_0_15 c1_1_15
  have e16 := he.stays bw16
  go_wp2_with fail
  refine (N6.out _ e16).mono ?_; rintro e w17 ⟨rfl, hb17⟩
  obtain ⟨cc, ff⟩ := bcell hb17
  have sz17 : w16.heap.size ≤ w17.heap.size := by have := hb17.size; first | exact this | (simp at this; omega)
  have bw17 : Below w.heap.size w w17 := by
    refine Below.trans ?_ (hb17.mono (by first | omega | (simp; done) | (simp; omega)))
    go_grown
  have lt0_17 : w4.heap.size < w17.heap.size := by omega
  have c0_0_17 : w17.cell? ⟨w4.heap.size, 0, none⟩ = some (.int .i64 1) := by rw [cc _ _ (by first | omega | (simp; done) | (simp; omega))]; first | assumption | (simp [go_sem, *]; done)
  have c0_1_17 : w17.cell? ⟨w4.heap.size, 1, none⟩ = some (.int .i64 0) := by rw [cc _ _ (by first | omega | (simp; done) | (simp; omega))]; first | assumption | (simp [go_sem, *]; done)
  have lt1_17 : w6.heap.size < w17.heap.size := by omega
  have c1_0_17 : w17.cell? ⟨w6.heap.size, 0, none⟩ = some (.int .i64 0) := by rw [cc _ _ (by first | omega | (simp; done) | (simp; omega))]; first | assumption | (simp [go_sem, *]; done)
  have c1_1_17 : w17.cell? ⟨w6.heap.size, 1, none⟩ = some (.int .i64 0) := by rw [cc _ _ (by first | omega | (simp; done) | (simp; omega))]; first | assumption | (simp [go_sem, *]; done)
  clear cc ff hb17 lt0_16 c0_0_16 c0_1_16 lt1_16 c1_0_16 c1_1_16
  have e17 := he.stays bw17
  go_wp2_with fail
  go_region_held3 (fun W => W.cell? ⟨w4.heap.size, 0, none⟩ = some (.int .i64 1) ∧ W.cell? ⟨w4.heap.size, 1, none⟩ = some (.int .i64 0) ∧ w4.heap.size < W.heap.size ∧ Env W ∧ Below w.heap.size w W)
     (first | assumption | exact keepE (by assumption) (by assumption) | (refine ⟨by simp [go_sem, *], by simp [go_sem, *], by simp [go_sem, *], ?_, ?_⟩ <;> first | assumption | exact Env.drew (by assumption) | exact Below.drew (by assumption)))
     (first | ((with_reducible refine (HO.out _ _).mono ?_); rintro e wz ⟨rfl, hb⟩) | ((with_reducible refine (HL.out _ (envOf (by assumption))).mono ?_); rintro e wz ⟨rfl, hb⟩))
  all_goals
    rename_i hS
    obtain ⟨_, _, _, _, hS5⟩ := hS
    go_wp2_with fail
    go_ret
    exact ⟨rfl, hS5⟩
end Go.Proofs.YtfhgcpmadajbdaaGreatDoor
