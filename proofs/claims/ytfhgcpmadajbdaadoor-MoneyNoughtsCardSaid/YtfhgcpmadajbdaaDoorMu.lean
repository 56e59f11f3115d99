/- The law on noughts behind a fraction (provostlaw14.MoneyNoughts). -/
import Derived.Test.YtfhgcpmadajbdaaDoorMk
import Derived.Test.YtfhgcpmadajbdaaDoorMr
set_option linter.unusedSimpArgs false
set_option linter.unusedVariables false
namespace Go.Proofs.YtfhgcpmadajbdaaDoor
open Go.RowKit
theorem pow_pos10 (k : Nat) : (0 : Int) < 10 ^ k := Int.pow_pos (by decide)
theorem inR_step (m : Int) (k : Nat) : inR (m * 10 ^ (k + 1)) = (inR (m * 10 ^ k) && (decide (m * 10 ^ k ≤ 922337203685477580) && decide (-922337203685477580 ≤ m * 10 ^ k))) := by
  rw [Int.pow_succ, ← Int.mul_assoc]
  generalize m * 10 ^ k = y
  rw [Bool.eq_iff_iff]
  simp only [inR_iff, Bool.and_eq_true, decide_eq_true_eq]
  unfold R; omega
/-- What a round is told of the number so far. -/
def Told (m : Int) (k : Nat) (b : Bool) (y : Int) : Prop := b = inR (m * 10 ^ k) ∧ (b = true → y = m * 10 ^ k)
theorem told_zero (m : Int) (h : R m) : Told m 0 true m := by
  unfold Told; rw [Int.pow_zero, Int.mul_one]; exact ⟨((inR_iff m).2 h).symm, fun _ => rfl⟩
theorem told_in {m : Int} {k : Nat} {y : Int} (h : Told m k true y) (h1 : y ≤ 922337203685477580) (h2 : -922337203685477580 ≤ y) : Told m (k + 1) true (y * 10) := by
  obtain ⟨a, b⟩ := h
  have := b rfl
  subst this
  refine ⟨?_, fun _ => by rw [Int.pow_succ, Int.mul_assoc]⟩
  rw [inR_step, ← a, decide_eq_true h1, decide_eq_true h2]; rfl
theorem told_hi {m : Int} {k : Nat} {y z : Int} (h : Told m k true y) (h1 : ¬ y ≤ 922337203685477580) : Told m (k + 1) false z := by
  obtain ⟨a, b⟩ := h
  have := b rfl
  subst this
  refine ⟨?_, fun q => by cases q⟩
  rw [inR_step, decide_eq_false h1]; simp
theorem told_lo {m : Int} {k : Nat} {y z : Int} (h : Told m k true y) (h1 : ¬ -922337203685477580 ≤ y) : Told m (k + 1) false z := by
  obtain ⟨a, b⟩ := h
  have := b rfl
  subst this
  refine ⟨?_, fun q => by cases q⟩
  rw [inR_step, decide_eq_false h1]; simp
theorem told_no {m : Int} {k : Nat} {y z : Int} (h : Told m k false y) : Told m (k + 1) false z := by
  refine ⟨?_, fun q => by cases q⟩
  rw [inR_step, ← h.1]; rfl
theorem wrap64_R (n : Int) : R (wrap64 n) := by unfold R wrap64; omega
set_option maxRecDepth 100000 in
set_option maxHeartbeats 2000000 in
theorem nought_bad (m s n : Int) (tB : ByteArray) (w : World) (he : Env w) (n0 : 0 ≤ n) (n9 : n ≤ 255) (hs : R s)
    (HT : Hid (∀ w, EnvT w → Calls Tryd.prog 9 #[.agg #[.int .i64 m, .int .i64 s]] w fun e w' => e = .returned (.tuple #[.string tB, .int .i64 140]) ∧ Below w.heap.size w w'))
     :
    Calls Tryd.prog 7 #[.agg #[.int .i64 m, .int .i64 s], .int .u8 n] w fun e w' => e = .returned (.bool true) ∧ Below w.heap.size w w' := by
  have HA := Lib.hid (fun w he => alive_true w he)
  go_enter Tryd.func7, Tryd.ntmps7
  go_wp2_with fail
  refine (HA.out _ (he.stays (by go_grown))).mono ?_; rintro e w1 ⟨rfl, hb1⟩
  obtain ⟨cc, ff⟩ := bcell hb1
  have sz1 : w.heap.size + 1 ≤ w1.heap.size := by have := hb1.size; first | exact this | (simp at this; omega)
  have bw1 : Below w.heap.size w w1 := by
    refine Below.trans ?_ (hb1.mono (by first | omega | (simp; done) | (simp; omega)))
    go_grown
  have lt0_1 : w.heap.size < w1.heap.size := by omega
  have c0_0_1 : w1.cell? ⟨w.heap.size, 0, none⟩ = some (.int .i64 m) := by rw [cc _ _ (by first | omega | (simp; done) | (simp; omega))]; first | assumption | (simp [go_sem, *]; done)
  have c0_1_1 : w1.cell? ⟨w.heap.size, 1, none⟩ = some (.int .i64 s) := by rw [cc _ _ (by first | omega | (simp; done) | (simp; omega))]; first | assumption | (simp [go_sem, *]; done)
  clear cc ff hb1
  have e1 := he.stays bw1
  go_wp2_with fail
  refine (HT.out _ e1.tabs).mono ?_; rintro e w2 ⟨rfl, hb2⟩
  obtain ⟨cc, ff⟩ := bcell hb2
  have sz2 : w1.heap.size ≤ w2.heap.size := by have := hb2.size; first | exact this | (simp at this; omega)
  have bw2 : Below w.heap.size w w2 := by
    refine Below.trans ?_ (hb2.mono (by first | omega | (simp; done) | (simp; omega)))
    go_grown
  have lt0_2 : w.heap.size < w2.heap.size := by omega
  have c0_0_2 : w2.cell? ⟨w.heap.size, 0, none⟩ = some (.int .i64 m) := by rw [cc _ _ (by first | omega | (simp; done) | (simp; omega))]; first | assumption | (simp [go_sem, *]; done)
  have c0_1_2 : w2.cell? ⟨w.heap.size, 1, none⟩ = some (.int .i64 s) := by rw [cc _ _ (by first | omega | (simp; done) | (simp; omega))]; first | assumption | (simp [go_sem, *]; done)
  clear cc ff hb2 lt0_1 c0_0_1 c0_1_1
  have e2 := he.stays bw2
  go_wp2_with fail
  go_ret
  refine ⟨rfl, ?_⟩
  go_grown
set_option maxRecDepth 100000 in
set_option maxHeartbeats 2000000 in
theorem nought_none (m s n : Int) (tB : ByteArray) (w : World) (he : Env w) (n0 : 0 ≤ n) (n9 : n ≤ 255) (hs : R s)
    (HT : Hid (∀ w, EnvT w → Calls Tryd.prog 9 #[.agg #[.int .i64 m, .int .i64 s]] w fun e w' => e = .returned (.tuple #[.string tB, .int .i64 0]) ∧ Below w.heap.size w w'))
    (h1 : n = 0) :
    Calls Tryd.prog 7 #[.agg #[.int .i64 m, .int .i64 s], .int .u8 n] w fun e w' => e = .returned (.bool true) ∧ Below w.heap.size w w' := by
  have HA := Lib.hid (fun w he => alive_true w he)
  subst h1
  go_enter Tryd.func7, Tryd.ntmps7
  go_wp2_with fail
  refine (HA.out _ (he.stays (by go_grown))).mono ?_; rintro e w1 ⟨rfl, hb1⟩
  obtain ⟨cc, ff⟩ := bcell hb1
  have sz1 : w.heap.size + 1 ≤ w1.heap.size := by have := hb1.size; first | exact this | (simp at this; omega)
  have bw1 : Below w.heap.size w w1 := by
    refine Below.trans ?_ (hb1.mono (by first | omega | (simp; done) | (simp; omega)))
    go_grown
  have lt0_1 : w.heap.size < w1.heap.size := by omega
  have c0_0_1 : w1.cell? ⟨w.heap.size, 0, none⟩ = some (.int .i64 m) := by rw [cc _ _ (by first | omega | (simp; done) | (simp; omega))]; first | assumption | (simp [go_sem, *]; done)
  have c0_1_1 : w1.cell? ⟨w.heap.size, 1, none⟩ = some (.int .i64 s) := by rw [cc _ _ (by first | omega | (simp; done) | (simp; omega))]; first | assumption | (simp [go_sem, *]; done)
  clear cc ff hb1
  have e1 := he.stays bw1
  go_wp2_with fail
  refine (HT.out _ e1.tabs).mono ?_; rintro e w2 ⟨rfl, hb2⟩
  obtain ⟨cc, ff⟩ := bcell hb2
  have sz2 : w1.heap.size ≤ w2.heap.size := by have := hb2.size; first | exact this | (simp at this; omega)
  have bw2 : Below w.heap.size w w2 := by
    refine Below.trans ?_ (hb2.mono (by first | omega | (simp; done) | (simp; omega)))
    go_grown
  have lt0_2 : w.heap.size < w2.heap.size := by omega
  have c0_0_2 : w2.cell? ⟨w.heap.size, 0, none⟩ = some (.int .i64 m) := by rw [cc _ _ (by first | omega | (simp; done) | (simp; omega))]; first | assumption | (simp [go_sem, *]; done)
  have c0_1_2 : w2.cell? ⟨w.heap.size, 1, none⟩ = some (.int .i64 s) := by rw [cc _ _ (by first | omega | (simp; done) | (simp; omega))]; first | assumption | (simp [go_sem, *]; done)
  clear cc ff hb2 lt0_1 c0_0_1 c0_1_1
  have e2 := he.stays bw2
  go_wp2_with fail
  go_ret
  refine ⟨rfl, ?_⟩
  go_grown
set_option maxRecDepth 100000 in
set_option maxHeartbeats 2000000 in
theorem nought_far (m s n : Int) (tB : ByteArray) (w : World) (he : Env w) (n0 : 0 ≤ n) (n9 : n ≤ 255) (hs : R s)
    (HT : Hid (∀ w, EnvT w → Calls Tryd.prog 9 #[.agg #[.int .i64 m, .int .i64 s]] w fun e w' => e = .returned (.tuple #[.string tB, .int .i64 0]) ∧ Below w.heap.size w w'))
    (h1 : (n == 0) = false) (s0 : 0 ≤ s) (s9 : s ≤ 18) (h2 : 18 < s + n) :
    Calls Tryd.prog 7 #[.agg #[.int .i64 m, .int .i64 s], .int .u8 n] w fun e w' => e = .returned (.bool true) ∧ Below w.heap.size w w' := by
  have HA := Lib.hid (fun w he => alive_true w he)
  go_enter Tryd.func7, Tryd.ntmps7
  go_wp2_with fail
  refine (HA.out _ (he.stays (by go_grown))).mono ?_; rintro e w1 ⟨rfl, hb1⟩
  obtain ⟨cc, ff⟩ := bcell hb1
  have sz1 : w.heap.size + 1 ≤ w1.heap.size := by have := hb1.size; first | exact this | (simp at this; omega)
  have bw1 : Below w.heap.size w w1 := by
    refine Below.trans ?_ (hb1.mono (by first | omega | (simp; done) | (simp; omega)))
    go_grown
  have lt0_1 : w.heap.size < w1.heap.size := by omega
  have c0_0_1 : w1.cell? ⟨w.heap.size, 0, none⟩ = some (.int .i64 m) := by rw [cc _ _ (by first | omega | (simp; done) | (simp; omega))]; first | assumption | (simp [go_sem, *]; done)
  have c0_1_1 : w1.cell? ⟨w.heap.size, 1, none⟩ = some (.int .i64 s) := by rw [cc _ _ (by first | omega | (simp; done) | (simp; omega))]; first | assumption | (simp [go_sem, *]; done)
  clear cc ff hb1
  have e1 := he.stays bw1
  go_wp2_with fail
  refine (HT.out _ e1.tabs).mono ?_; rintro e w2 ⟨rfl, hb2⟩
  obtain ⟨cc, ff⟩ := bcell hb2
  have sz2 : w1.heap.size ≤ w2.heap.size := by have := hb2.size; first | exact this | (simp at this; omega)
  have bw2 : Below w.heap.size w w2 := by
    refine Below.trans ?_ (hb2.mono (by first | omega | (simp; done) | (simp; omega)))
    go_grown
  have lt0_2 : w.heap.size < w2.heap.size := by omega
  have c0_0_2 : w2.cell? ⟨w.heap.size, 0, none⟩ = some (.int .i64 m) := by rw [cc _ _ (by first | omega | (simp; done) | (simp; omega))]; first | assumption | (simp [go_sem, *]; done)
  have c0_1_2 : w2.cell? ⟨w.heap.size, 1, none⟩ = some (.int .i64 s) := by rw [cc _ _ (by first | omega | (simp; done) | (simp; omega))]; first | assumption | (simp [go_sem, *]; done)
  clear cc ff hb2 lt0_1 c0_0_1 c0_1_1
  have e2 := he.stays bw2
  go_wp2_with fail
  go_ret
  refine ⟨rfl, ?_⟩
  go_grown
theorem size_app (a : ByteArray) (c : UInt8) : (a ++ ⟨#[c]⟩ : ByteArray).size = a.size + 1 := by rw [ByteArray.size_append]; rfl
theorem snoc48 {u : ByteArray} {l0 : List UInt8} {k : Nat} (h : u.data.toList = l0 ++ List.replicate k 48) : (u ++ ⟨#[48]⟩).data.toList = l0 ++ List.replicate (k + 1) 48 := by
  have e : u = ⟨(l0 ++ List.replicate k 48).toArray⟩ := bytes_ext h
  rw [e, show (⟨#[48]⟩ : ByteArray) = ⟨[48].toArray⟩ from rfl, cat, List.replicate_succ', List.append_assoc]
set_option maxRecDepth 100000 in
set_option maxHeartbeats 2000000 in
theorem nought_d_true (m s n : Int) (tB : ByteArray) (w : World) (he : Env w) (n0 : 0 ≤ n) (n9 : n ≤ 255) (hs : R s)
    (HT : Hid (∀ w, EnvT w → Calls Tryd.prog 9 #[.agg #[.int .i64 m, .int .i64 s]] w fun e w' => e = .returned (.tuple #[.string tB, .int .i64 0]) ∧ Below w.heap.size w w'))
    (nn : Nat) (hn : n = nn) (h1 : ((nn : Int) == 0) = false) (s0 : s = 0) (s9 : s ≤ 18) (h2 : s + nn ≤ 18) (hm : R m) (ht : tB.size ≤ 199) (l0 : List UInt8) (HL0 : Hid ((tB ++ ⟨#[46]⟩).data.toList = l0 ++ List.replicate 0 48)) (HF : Hid (inR (m * 10 ^ nn) = true)) (HP : ∀ uB : ByteArray, uB.data.toList = l0 ++ List.replicate nn 48 → ∀ w, Env w → Calls Tryd.prog 19 #[.string uB] w fun e w' => e = .returned (.tuple #[.agg #[.int .i64 m, .int .i64 s], .int .i64 0]) ∧ Below w.heap.size w w') :
    Calls Tryd.prog 7 #[.agg #[.int .i64 m, .int .i64 s], .int .u8 n] w fun e w' => e = .returned (.bool true) ∧ Below w.heap.size w w' := by
  have HA := Lib.hid (fun w he => alive_true w he)
  subst hn
  have nn8 : nn ≤ 18 := by omega
  have hs1 : (s == 0) = true := by simpa using s0
  have hs00 : 0 ≤ s := by omega
  clear s0
  have hmq := hm
  obtain ⟨m1, m2⟩ := hmq
  go_enter Tryd.func7, Tryd.ntmps7
  go_wp2_with fail
  refine (HA.out _ (he.stays (by go_grown))).mono ?_; rintro e w1 ⟨rfl, hb1⟩
  obtain ⟨cc, ff⟩ := bcell hb1
  have sz1 : w.heap.size + 1 ≤ w1.heap.size := by have := hb1.size; first | exact this | (simp at this; omega)
  have bw1 : Below w.heap.size w w1 := by
    refine Below.trans ?_ (hb1.mono (by first | omega | (simp; done) | (simp; omega)))
    go_grown
  have lt0_1 : w.heap.size < w1.heap.size := by omega
  have c0_0_1 : w1.cell? ⟨w.heap.size, 0, none⟩ = some (.int .i64 m) := by rw [cc _ _ (by first | omega | (simp; done) | (simp; omega))]; first | assumption | (simp [go_sem, *]; done)
  have c0_1_1 : w1.cell? ⟨w.heap.size, 1, none⟩ = some (.int .i64 s) := by rw [cc _ _ (by first | omega | (simp; done) | (simp; omega))]; first | assumption | (simp [go_sem, *]; done)
  clear cc ff hb1
  have e1 := he.stays bw1
  go_wp2_with fail
  refine (HT.out _ e1.tabs).mono ?_; rintro e w2 ⟨rfl, hb2⟩
  obtain ⟨cc, ff⟩ := bcell hb2
  have sz2 : w1.heap.size ≤ w2.heap.size := by have := hb2.size; first | exact this | (simp at this; omega)
  have bw2 : Below w.heap.size w w2 := by
    refine Below.trans ?_ (hb2.mono (by first | omega | (simp; done) | (simp; omega)))
    go_grown
  have lt0_2 : w.heap.size < w2.heap.size := by omega
  have c0_0_2 : w2.cell? ⟨w.heap.size, 0, none⟩ = some (.int .i64 m) := by rw [cc _ _ (by first | omega | (simp; done) | (simp; omega))]; first | assumption | (simp [go_sem, *]; done)
  have c0_1_2 : w2.cell? ⟨w.heap.size, 1, none⟩ = some (.int .i64 s) := by rw [cc _ _ (by first | omega | (simp; done) | (simp; omega))]; first | assumption | (simp [go_sem, *]; done)
  clear cc ff hb2 lt0_1 c0_0_1 c0_1_1
  have e2 := he.stays bw2
  go_wp2_with fail
  go_loop [6, 8, 9, 10] (fun t f x i => ∃ (k : Nat) (uB : ByteArray) (b : Bool) (y : Int), k ≤ nn ∧ i = .int .i64 k ∧ t = .string uB ∧ f = .bool b ∧ x = .int .i64 y ∧ uB.size ≤ 200 + k ∧ R y ∧ Hid (uB.data.toList = l0 ++ List.replicate k 48) ∧ Hid (Told m k b y)) (fun t f x i => nn - (intOf i).toNat)
  case atStart => exact ⟨0, _, true, m, by omega, rfl, rfl, rfl, rfl, by rw [size_app]; omega, hm, HL0, Lib.hid (told_zero m hm)⟩
  case round =>
    obtain ⟨k, uB, b, y, hk, rfl, rfl, rfl, rfl, hu, hy, HU, HB⟩ := hrel
    have hu2 : uB.size ≤ 218 := by omega
    have HU2 : Hid ((uB ++ ⟨#[48]⟩).data.toList = l0 ++ List.replicate (k + 1) 48) := Lib.hid (snoc48 HU.out)
    have hus : (uB ++ ⟨#[48]⟩ : ByteArray).size ≤ 200 + (k + 1) := by rw [size_app]; omega
    have HUS := Lib.hid hus
    clear hus
    obtain ⟨y1, y2⟩ := hy
    by_cases hlt : k < nn
    · cases b with
      | true =>
        by_cases h1 : y ≤ 922337203685477580
        · by_cases h2 : -922337203685477580 ≤ y
          · go_wp2_with fail
            go_round
            case rel => exact ⟨k + 1, _, true, y * 10, by omega, by go_num, rfl, rfl, rfl, HUS.out, by unfold R; omega, HU2, Lib.hid (told_in HB.out h1 h2)⟩
            case measure => simp [intOf]; omega
          · have hw := wrap64_R (y * 10)
            go_wp2_with fail
            go_round
            case rel => exact ⟨k + 1, _, false, _, by omega, by go_num, rfl, rfl, rfl, HUS.out, hw, HU2, Lib.hid (told_lo HB.out h2)⟩
            case measure => simp [intOf]; omega
        · have hw := wrap64_R (y * 10)
          go_wp2_with fail
          go_round
          case rel => exact ⟨k + 1, _, false, _, by omega, by go_num, rfl, rfl, rfl, HUS.out, hw, HU2, Lib.hid (told_hi HB.out h1)⟩
          case measure => simp [intOf]; omega
      | false =>
        have hw := wrap64_R (y * 10)
        go_wp2_with fail
        go_round
        case rel => exact ⟨k + 1, _, false, _, by omega, by go_num, rfl, rfl, rfl, HUS.out, hw, HU2, Lib.hid (told_no HB.out)⟩
        case measure => simp [intOf]; omega
    · obtain rfl : k = nn := by omega
      have hb : b = true := HB.out.1.trans HF.out
      subst hb
      have HPu := Lib.hid (fun w he => (HP uB HU.out w he : _))
      go_wp2_with fail
      refine (HPu.out _ e2).mono ?_; rintro e w3 ⟨rfl, hb3⟩
      obtain ⟨cc, ff⟩ := bcell hb3
      have sz3 : w2.heap.size ≤ w3.heap.size := hb3.size
      have bw3 : Below w.heap.size w w3 := bw2.trans (hb3.mono (by omega))
      have lt3 : w.heap.size < w3.heap.size := by omega
      have d0 : w3.cell? ⟨w.heap.size, 0, none⟩ = some (.int .i64 m) := (cc _ _ (by omega)).trans c0_0_2
      have d1 : w3.cell? ⟨w.heap.size, 1, none⟩ = some (.int .i64 s) := (cc _ _ (by omega)).trans c0_1_2
      clear cc ff hb3
      go_wp2_with fail
      go_ret
      refine ⟨rfl, ?_⟩
      go_grown
set_option maxRecDepth 100000 in
set_option maxHeartbeats 2000000 in
theorem nought_d_false (m s n : Int) (tB : ByteArray) (w : World) (he : Env w) (n0 : 0 ≤ n) (n9 : n ≤ 255) (hs : R s)
    (HT : Hid (∀ w, EnvT w → Calls Tryd.prog 9 #[.agg #[.int .i64 m, .int .i64 s]] w fun e w' => e = .returned (.tuple #[.string tB, .int .i64 0]) ∧ Below w.heap.size w w'))
    (nn : Nat) (hn : n = nn) (h1 : ((nn : Int) == 0) = false) (s0 : s = 0) (s9 : s ≤ 18) (h2 : s + nn ≤ 18) (hm : R m) (ht : tB.size ≤ 199) (l0 : List UInt8) (HL0 : Hid ((tB ++ ⟨#[46]⟩).data.toList = l0 ++ List.replicate 0 48)) (HF : Hid (inR (m * 10 ^ nn) = false)) (HP : ∀ uB : ByteArray, uB.data.toList = l0 ++ List.replicate nn 48 → ∀ w, Env w → Calls Tryd.prog 19 #[.string uB] w fun e w' => e = .returned (.tuple #[.agg #[.int .i64 0, .int .i64 0], .int .i64 140]) ∧ Below w.heap.size w w') :
    Calls Tryd.prog 7 #[.agg #[.int .i64 m, .int .i64 s], .int .u8 n] w fun e w' => e = .returned (.bool true) ∧ Below w.heap.size w w' := by
  have HA := Lib.hid (fun w he => alive_true w he)
  subst hn
  have nn8 : nn ≤ 18 := by omega
  have hs1 : (s == 0) = true := by simpa using s0
  have hs00 : 0 ≤ s := by omega
  clear s0
  have hmq := hm
  obtain ⟨m1, m2⟩ := hmq
  go_enter Tryd.func7, Tryd.ntmps7
  go_wp2_with fail
  refine (HA.out _ (he.stays (by go_grown))).mono ?_; rintro e w1 ⟨rfl, hb1⟩
  obtain ⟨cc, ff⟩ := bcell hb1
  have sz1 : w.heap.size + 1 ≤ w1.heap.size := by have := hb1.size; first | exact this | (simp at this; omega)
  have bw1 : Below w.heap.size w w1 := by
    refine Below.trans ?_ (hb1.mono (by first | omega | (simp; done) | (simp; omega)))
    go_grown
  have lt0_1 : w.heap.size < w1.heap.size := by omega
  have c0_0_1 : w1.cell? ⟨w.heap.size, 0, none⟩ = some (.int .i64 m) := by rw [cc _ _ (by first | omega | (simp; done) | (simp; omega))]; first | assumption | (simp [go_sem, *]; done)
  have c0_1_1 : w1.cell? ⟨w.heap.size, 1, none⟩ = some (.int .i64 s) := by rw [cc _ _ (by first | omega | (simp; done) | (simp; omega))]; first | assumption | (simp [go_sem, *]; done)
  clear cc ff hb1
  have e1 := he.stays bw1
  go_wp2_with fail
  refine (HT.out _ e1.tabs).mono ?_; rintro e w2 ⟨rfl, hb2⟩
  obtain ⟨cc, ff⟩ := bcell hb2
  have sz2 : w1.heap.size ≤ w2.heap.size := by have := hb2.size; first | exact this | (simp at this; omega)
  have bw2 : Below w.heap.size w w2 := by
    refine Below.trans ?_ (hb2.mono (by first | omega | (simp; done) | (simp; omega)))
    go_grown
  have lt0_2 : w.heap.size < w2.heap.size := by omega
  have c0_0_2 : w2.cell? ⟨w.heap.size, 0, none⟩ = some (.int .i64 m) := by rw [cc _ _ (by first | omega | (simp; done) | (simp; omega))]; first | assumption | (simp [go_sem, *]; done)
  have c0_1_2 : w2.cell? ⟨w.heap.size, 1, none⟩ = some (.int .i64 s) := by rw [cc _ _ (by first | omega | (simp; done) | (simp; omega))]; first | assumption | (simp [go_sem, *]; done)
  clear cc ff hb2 lt0_1 c0_0_1 c0_1_1
  have e2 := he.stays bw2
  go_wp2_with fail
  go_loop [6, 8, 9, 10] (fun t f x i => ∃ (k : Nat) (uB : ByteArray) (b : Bool) (y : Int), k ≤ nn ∧ i = .int .i64 k ∧ t = .string uB ∧ f = .bool b ∧ x = .int .i64 y ∧ uB.size ≤ 200 + k ∧ R y ∧ Hid (uB.data.toList = l0 ++ List.replicate k 48) ∧ Hid (Told m k b y)) (fun t f x i => nn - (intOf i).toNat)
  case atStart => exact ⟨0, _, true, m, by omega, rfl, rfl, rfl, rfl, by rw [size_app]; omega, hm, HL0, Lib.hid (told_zero m hm)⟩
  case round =>
    obtain ⟨k, uB, b, y, hk, rfl, rfl, rfl, rfl, hu, hy, HU, HB⟩ := hrel
    have hu2 : uB.size ≤ 218 := by omega
    have HU2 : Hid ((uB ++ ⟨#[48]⟩).data.toList = l0 ++ List.replicate (k + 1) 48) := Lib.hid (snoc48 HU.out)
    have hus : (uB ++ ⟨#[48]⟩ : ByteArray).size ≤ 200 + (k + 1) := by rw [size_app]; omega
    have HUS := Lib.hid hus
    clear hus
    obtain ⟨y1, y2⟩ := hy
    by_cases hlt : k < nn
    · cases b with
      | true =>
        by_cases h1 : y ≤ 922337203685477580
        · by_cases h2 : -922337203685477580 ≤ y
          · go_wp2_with fail
            go_round
            case rel => exact ⟨k + 1, _, true, y * 10, by omega, by go_num, rfl, rfl, rfl, HUS.out, by unfold R; omega, HU2, Lib.hid (told_in HB.out h1 h2)⟩
            case measure => simp [intOf]; omega
          · have hw := wrap64_R (y * 10)
            go_wp2_with fail
            go_round
            case rel => exact ⟨k + 1, _, false, _, by omega, by go_num, rfl, rfl, rfl, HUS.out, hw, HU2, Lib.hid (told_lo HB.out h2)⟩
            case measure => simp [intOf]; omega
        · have hw := wrap64_R (y * 10)
          go_wp2_with fail
          go_round
          case rel => exact ⟨k + 1, _, false, _, by omega, by go_num, rfl, rfl, rfl, HUS.out, hw, HU2, Lib.hid (told_hi HB.out h1)⟩
          case measure => simp [intOf]; omega
      | false =>
        have hw := wrap64_R (y * 10)
        go_wp2_with fail
        go_round
        case rel => exact ⟨k + 1, _, false, _, by omega, by go_num, rfl, rfl, rfl, HUS.out, hw, HU2, Lib.hid (told_no HB.out)⟩
        case measure => simp [intOf]; omega
    · obtain rfl : k = nn := by omega
      have hb : b = false := HB.out.1.trans HF.out
      subst hb
      have HPu := Lib.hid (fun w he => (HP uB HU.out w he : _))
      go_wp2_with fail
      refine (HPu.out _ e2).mono ?_; rintro e w3 ⟨rfl, hb3⟩
      obtain ⟨cc, ff⟩ := bcell hb3
      have sz3 : w2.heap.size ≤ w3.heap.size := hb3.size
      have bw3 : Below w.heap.size w w3 := bw2.trans (hb3.mono (by omega))
      have lt3 : w.heap.size < w3.heap.size := by omega
      have d0 : w3.cell? ⟨w.heap.size, 0, none⟩ = some (.int .i64 m) := (cc _ _ (by omega)).trans c0_0_2
      have d1 : w3.cell? ⟨w.heap.size, 1, none⟩ = some (.int .i64 s) := (cc _ _ (by omega)).trans c0_1_2
      clear cc ff hb3
      go_wp2_with fail
      go_ret
      refine ⟨rfl, ?_⟩
      go_grown
set_option maxRecDepth 100000 in
set_option maxHeartbeats 2000000 in
theorem nought_n_true (m s n : Int) (tB : ByteArray) (w : World) (he : Env w) (n0 : 0 ≤ n) (n9 : n ≤ 255) (hs : R s)
    (HT : Hid (∀ w, EnvT w → Calls Tryd.prog 9 #[.agg #[.int .i64 m, .int .i64 s]] w fun e w' => e = .returned (.tuple #[.string tB, .int .i64 0]) ∧ Below w.heap.size w w'))
    (nn : Nat) (hn : n = nn) (h1 : ((nn : Int) == 0) = false) (s0 : 0 < s) (s9 : s ≤ 18) (h2 : s + nn ≤ 18) (hm : R m) (ht : tB.size ≤ 199) (l0 : List UInt8) (HL0 : Hid ((tB).data.toList = l0 ++ List.replicate 0 48)) (HF : Hid (inR (m * 10 ^ nn) = true)) (HP : ∀ uB : ByteArray, uB.data.toList = l0 ++ List.replicate nn 48 → ∀ w, Env w → Calls Tryd.prog 19 #[.string uB] w fun e w' => e = .returned (.tuple #[.agg #[.int .i64 m, .int .i64 s], .int .i64 0]) ∧ Below w.heap.size w w') :
    Calls Tryd.prog 7 #[.agg #[.int .i64 m, .int .i64 s], .int .u8 n] w fun e w' => e = .returned (.bool true) ∧ Below w.heap.size w w' := by
  have HA := Lib.hid (fun w he => alive_true w he)
  subst hn
  have nn8 : nn ≤ 18 := by omega
  have hs1 : (s == 0) = false := by rw [beq_eq_false_iff_ne]; omega
  have hmq := hm
  obtain ⟨m1, m2⟩ := hmq
  go_enter Tryd.func7, Tryd.ntmps7
  go_wp2_with fail
  refine (HA.out _ (he.stays (by go_grown))).mono ?_; rintro e w1 ⟨rfl, hb1⟩
  obtain ⟨cc, ff⟩ := bcell hb1
  have sz1 : w.heap.size + 1 ≤ w1.heap.size := by have := hb1.size; first | exact this | (simp at this; omega)
  have bw1 : Below w.heap.size w w1 := by
    refine Below.trans ?_ (hb1.mono (by first | omega | (simp; done) | (simp; omega)))
    go_grown
  have lt0_1 : w.heap.size < w1.heap.size := by omega
  have c0_0_1 : w1.cell? ⟨w.heap.size, 0, none⟩ = some (.int .i64 m) := by rw [cc _ _ (by first | omega | (simp; done) | (simp; omega))]; first | assumption | (simp [go_sem, *]; done)
  have c0_1_1 : w1.cell? ⟨w.heap.size, 1, none⟩ = some (.int .i64 s) := by rw [cc _ _ (by first | omega | (simp; done) | (simp; omega))]; first | assumption | (simp [go_sem, *]; done)
  clear cc ff hb1
  have e1 := he.stays bw1
  go_wp2_with fail
  refine (HT.out _ e1.tabs).mono ?_; rintro e w2 ⟨rfl, hb2⟩
  obtain ⟨cc, ff⟩ := bcell hb2
  have sz2 : w1.heap.size ≤ w2.heap.size := by have := hb2.size; first | exact this | (simp at this; omega)
  have bw2 : Below w.heap.size w w2 := by
    refine Below.trans ?_ (hb2.mono (by first | omega | (simp; done) | (simp; omega)))
    go_grown
  have lt0_2 : w.heap.size < w2.heap.size := by omega
  have c0_0_2 : w2.cell? ⟨w.heap.size, 0, none⟩ = some (.int .i64 m) := by rw [cc _ _ (by first | omega | (simp; done) | (simp; omega))]; first | assumption | (simp [go_sem, *]; done)
  have c0_1_2 : w2.cell? ⟨w.heap.size, 1, none⟩ = some (.int .i64 s) := by rw [cc _ _ (by first | omega | (simp; done) | (simp; omega))]; first | assumption | (simp [go_sem, *]; done)
  clear cc ff hb2 lt0_1 c0_0_1 c0_1_1
  have e2 := he.stays bw2
  go_wp2_with fail
  go_loop [6, 8, 9, 10] (fun t f x i => ∃ (k : Nat) (uB : ByteArray) (b : Bool) (y : Int), k ≤ nn ∧ i = .int .i64 k ∧ t = .string uB ∧ f = .bool b ∧ x = .int .i64 y ∧ uB.size ≤ 200 + k ∧ R y ∧ Hid (uB.data.toList = l0 ++ List.replicate k 48) ∧ Hid (Told m k b y)) (fun t f x i => nn - (intOf i).toNat)
  case atStart => exact ⟨0, _, true, m, by omega, rfl, rfl, rfl, rfl, by omega, hm, HL0, Lib.hid (told_zero m hm)⟩
  case round =>
    obtain ⟨k, uB, b, y, hk, rfl, rfl, rfl, rfl, hu, hy, HU, HB⟩ := hrel
    have hu2 : uB.size ≤ 218 := by omega
    have HU2 : Hid ((uB ++ ⟨#[48]⟩).data.toList = l0 ++ List.replicate (k + 1) 48) := Lib.hid (snoc48 HU.out)
    have hus : (uB ++ ⟨#[48]⟩ : ByteArray).size ≤ 200 + (k + 1) := by rw [size_app]; omega
    have HUS := Lib.hid hus
    clear hus
    obtain ⟨y1, y2⟩ := hy
    by_cases hlt : k < nn
    · cases b with
      | true =>
        by_cases h1 : y ≤ 922337203685477580
        · by_cases h2 : -922337203685477580 ≤ y
          · go_wp2_with fail
            go_round
            case rel => exact ⟨k + 1, _, true, y * 10, by omega, by go_num, rfl, rfl, rfl, HUS.out, by unfold R; omega, HU2, Lib.hid (told_in HB.out h1 h2)⟩
            case measure => simp [intOf]; omega
          · have hw := wrap64_R (y * 10)
            go_wp2_with fail
            go_round
            case rel => exact ⟨k + 1, _, false, _, by omega, by go_num, rfl, rfl, rfl, HUS.out, hw, HU2, Lib.hid (told_lo HB.out h2)⟩
            case measure => simp [intOf]; omega
        · have hw := wrap64_R (y * 10)
          go_wp2_with fail
          go_round
          case rel => exact ⟨k + 1, _, false, _, by omega, by go_num, rfl, rfl, rfl, HUS.out, hw, HU2, Lib.hid (told_hi HB.out h1)⟩
          case measure => simp [intOf]; omega
      | false =>
        have hw := wrap64_R (y * 10)
        go_wp2_with fail
        go_round
        case rel => exact ⟨k + 1, _, false, _, by omega, by go_num, rfl, rfl, rfl, HUS.out, hw, HU2, Lib.hid (told_no HB.out)⟩
        case measure => simp [intOf]; omega
    · obtain rfl : k = nn := by omega
      have hb : b = true := HB.out.1.trans HF.out
      subst hb
      have HPu := Lib.hid (fun w he => (HP uB HU.out w he : _))
      go_wp2_with fail
      refine (HPu.out _ e2).mono ?_; rintro e w3 ⟨rfl, hb3⟩
      obtain ⟨cc, ff⟩ := bcell hb3
      have sz3 : w2.heap.size ≤ w3.heap.size := hb3.size
      have bw3 : Below w.heap.size w w3 := bw2.trans (hb3.mono (by omega))
      have lt3 : w.heap.size < w3.heap.size := by omega
      have d0 : w3.cell? ⟨w.heap.size, 0, none⟩ = some (.int .i64 m) := (cc _ _ (by omega)).trans c0_0_2
      have d1 : w3.cell? ⟨w.heap.size, 1, none⟩ = some (.int .i64 s) := (cc _ _ (by omega)).trans c0_1_2
      clear cc ff hb3
      go_wp2_with fail
      go_ret
      refine ⟨rfl, ?_⟩
      go_grown
set_option maxRecDepth 100000 in
set_option maxHeartbeats 2000000 in
theorem nought_n_false (m s n : Int) (tB : ByteArray) (w : World) (he : Env w) (n0 : 0 ≤ n) (n9 : n ≤ 255) (hs : R s)
    (HT : Hid (∀ w, EnvT w → Calls Tryd.prog 9 #[.agg #[.int .i64 m, .int .i64 s]] w fun e w' => e = .returned (.tuple #[.string tB, .int .i64 0]) ∧ Below w.heap.size w w'))
    (nn : Nat) (hn : n = nn) (h1 : ((nn : Int) == 0) = false) (s0 : 0 < s) (s9 : s ≤ 18) (h2 : s + nn ≤ 18) (hm : R m) (ht : tB.size ≤ 199) (l0 : List UInt8) (HL0 : Hid ((tB).data.toList = l0 ++ List.replicate 0 48)) (HF : Hid (inR (m * 10 ^ nn) = false)) (HP : ∀ uB : ByteArray, uB.data.toList = l0 ++ List.replicate nn 48 → ∀ w, Env w → Calls Tryd.prog 19 #[.string uB] w fun e w' => e = .returned (.tuple #[.agg #[.int .i64 0, .int .i64 0], .int .i64 140]) ∧ Below w.heap.size w w') :
    Calls Tryd.prog 7 #[.agg #[.int .i64 m, .int .i64 s], .int .u8 n] w fun e w' => e = .returned (.bool true) ∧ Below w.heap.size w w' := by
  have HA := Lib.hid (fun w he => alive_true w he)
  subst hn
  have nn8 : nn ≤ 18 := by omega
  have hs1 : (s == 0) = false := by rw [beq_eq_false_iff_ne]; omega
  have hmq := hm
  obtain ⟨m1, m2⟩ := hmq
  go_enter Tryd.func7, Tryd.ntmps7
  go_wp2_with fail
  refine (HA.out _ (he.stays (by go_grown))).mono ?_; rintro e w1 ⟨rfl, hb1⟩
  obtain ⟨cc, ff⟩ := bcell hb1
  have sz1 : w.heap.size + 1 ≤ w1.heap.size := by have := hb1.size; first | exact this | (simp at this; omega)
  have bw1 : Below w.heap.size w w1 := by
    refine Below.trans ?_ (hb1.mono (by first | omega | (simp; done) | (simp; omega)))
    go_grown
  have lt0_1 : w.heap.size < w1.heap.size := by omega
  have c0_0_1 : w1.cell? ⟨w.heap.size, 0, none⟩ = some (.int .i64 m) := by rw [cc _ _ (by first | omega | (simp; done) | (simp; omega))]; first | assumption | (simp [go_sem, *]; done)
  have c0_1_1 : w1.cell? ⟨w.heap.size, 1, none⟩ = some (.int .i64 s) := by rw [cc _ _ (by first | omega | (simp; done) | (simp; omega))]; first | assumption | (simp [go_sem, *]; done)
  clear cc ff hb1
  have e1 := he.stays bw1
  go_wp2_with fail
  refine (HT.out _ e1.tabs).mono ?_; rintro e w2 ⟨rfl, hb2⟩
  obtain ⟨cc, ff⟩ := bcell hb2
  have sz2 : w1.heap.size ≤ w2.heap.size := by have := hb2.size; first | exact this | (simp at this; omega)
  have bw2 : Below w.heap.size w w2 := by
    refine Below.trans ?_ (hb2.mono (by first | omega | (simp; done) | (simp; omega)))
    go_grown
  have lt0_2 : w.heap.size < w2.heap.size := by omega
  have c0_0_2 : w2.cell? ⟨w.heap.size, 0, none⟩ = some (.int .i64 m) := by rw [cc _ _ (by first | omega | (simp; done) | (simp; omega))]; first | assumption | (simp [go_sem, *]; done)
  have c0_1_2 : w2.cell? ⟨w.heap.size, 1, none⟩ = some (.int .i64 s) := by rw [cc _ _ (by first | omega | (simp; done) | (simp; omega))]; first | assumption | (simp [go_sem, *]; done)
  clear cc ff hb2 lt0_1 c0_0_1 c0_1_1
  have e2 := he.stays bw2
  go_wp2_with fail
  go_loop [6, 8, 9, 10] (fun t f x i => ∃ (k : Nat) (uB : ByteArray) (b : Bool) (y : Int), k ≤ nn ∧ i = .int .i64 k ∧ t = .string uB ∧ f = .bool b ∧ x = .int .i64 y ∧ uB.size ≤ 200 + k ∧ R y ∧ Hid (uB.data.toList = l0 ++ List.replicate k 48) ∧ Hid (Told m k b y)) (fun t f x i => nn - (intOf i).toNat)
  case atStart => exact ⟨0, _, true, m, by omega, rfl, rfl, rfl, rfl, by omega, hm, HL0, Lib.hid (told_zero m hm)⟩
  case round =>
    obtain ⟨k, uB, b, y, hk, rfl, rfl, rfl, rfl, hu, hy, HU, HB⟩ := hrel
    have hu2 : uB.size ≤ 218 := by omega
    have HU2 : Hid ((uB ++ ⟨#[48]⟩).data.toList = l0 ++ List.replicate (k + 1) 48) := Lib.hid (snoc48 HU.out)
    have hus : (uB ++ ⟨#[48]⟩ : ByteArray).size ≤ 200 + (k + 1) := by rw [size_app]; omega
    have HUS := Lib.hid hus
    clear hus
    obtain ⟨y1, y2⟩ := hy
    by_cases hlt : k < nn
    · cases b with
      | true =>
        by_cases h1 : y ≤ 922337203685477580
        · by_cases h2 : -922337203685477580 ≤ y
          · go_wp2_with fail
            go_round
            case rel => exact ⟨k + 1, _, true, y * 10, by omega, by go_num, rfl, rfl, rfl, HUS.out, by unfold R; omega, HU2, Lib.hid (told_in HB.out h1 h2)⟩
            case measure => simp [intOf]; omega
          · have hw := wrap64_R (y * 10)
            go_wp2_with fail
            go_round
            case rel => exact ⟨k + 1, _, false, _, by omega, by go_num, rfl, rfl, rfl, HUS.out, hw, HU2, Lib.hid (told_lo HB.out h2)⟩
            case measure => simp [intOf]; omega
        · have hw := wrap64_R (y * 10)
          go_wp2_with fail
          go_round
          case rel => exact ⟨k + 1, _, false, _, by omega, by go_num, rfl, rfl, rfl, HUS.out, hw, HU2, Lib.hid (told_hi HB.out h1)⟩
          case measure => simp [intOf]; omega
      | false =>
        have hw := wrap64_R (y * 10)
        go_wp2_with fail
        go_round
        case rel => exact ⟨k + 1, _, false, _, by omega, by go_num, rfl, rfl, rfl, HUS.out, hw, HU2, Lib.hid (told_no HB.out)⟩
        case measure => simp [intOf]; omega
    · obtain rfl : k = nn := by omega
      have hb : b = false := HB.out.1.trans HF.out
      subst hb
      have HPu := Lib.hid (fun w he => (HP uB HU.out w he : _))
      go_wp2_with fail
      refine (HPu.out _ e2).mono ?_; rintro e w3 ⟨rfl, hb3⟩
      obtain ⟨cc, ff⟩ := bcell hb3
      have sz3 : w2.heap.size ≤ w3.heap.size := hb3.size
      have bw3 : Below w.heap.size w w3 := bw2.trans (hb3.mono (by omega))
      have lt3 : w.heap.size < w3.heap.size := by omega
      have d0 : w3.cell? ⟨w.heap.size, 0, none⟩ = some (.int .i64 m) := (cc _ _ (by omega)).trans c0_0_2
      have d1 : w3.cell? ⟨w.heap.size, 1, none⟩ = some (.int .i64 s) := (cc _ _ (by omega)).trans c0_1_2
      clear cc ff hb3
      go_wp2_with fail
      go_ret
      refine ⟨rfl, ?_⟩
      go_grown
theorem noughts_walk (m s n : Int) (hm : R m) (hs : R s) (n0 : 0 ≤ n) (n9 : n ≤ 255) (w : World) (he : Env w) :
    Calls Tryd.prog 7 #[.agg #[.int .i64 m, .int .i64 s], .int .u8 n] w fun e w' => e = .returned (.bool true) ∧ Below w.heap.size w w' := by
  have HT := Lib.hid (fun w he => mtext_any m s hm hs w he)
  cases h : may m s with
  | false =>
    rw [show chk m s = 140 by unfold chk; rw [h]; rfl] at HT
    exact nought_bad m s n _ w he n0 n9 hs HT
  | true =>
    have hb := may_bd h
    rw [show chk m s = 0 by unfold chk; rw [h]; rfl] at HT
    by_cases hn : n = 0
    · exact nought_none m s n _ w he n0 n9 hs HT hn
    by_cases hf : 18 < s + n
    · exact nought_far m s n _ w he n0 n9 hs HT (by simpa using hn) hb.1 hb.2 hf
    obtain ⟨j, rfl⟩ := Int.eq_ofNat_of_zero_le n0
    obtain ⟨i, rfl⟩ := Int.eq_ofNat_of_zero_le hb.1
    have ht : (⟨(tx m i).toArray⟩ : ByteArray).size ≤ 199 := by rw [size_mk]; have := tx_len m i hm; omega
    have e1 : tx m i = txt m i := by unfold tx; rw [h]; rfl
    obtain ⟨zt1, zt2⟩ := zeros_tell m i j h (by omega) (by omega)
    have hP : ∀ uB : ByteArray, uB.data.toList = zeros m i j → uB.size ≤ 1000000 := fun uB hu => by
      have : uB.data.toList.length = (zeros m i j).length := by rw [hu]
      rw [Array.length_toList] at this
      change uB.data.size ≤ _
      rw [this]; unfold zeros
      rw [List.length_append, List.length_append, List.length_replicate, ← e1]
      have := tx_len m i hm
      have h2 : (if i = 0 then [46] else ([] : List UInt8)).length ≤ 1 := by split <;> simp
      omega
    cases hF : inR (m * 10 ^ j) with
    | true =>
      obtain ⟨g1, g2, g3⟩ := zt1 ((inR_iff _).1 hF)
      by_cases hi : i = 0
      · subst hi
        refine nought_d_true m _ _ _ w he n0 n9 hs HT j rfl (by simpa using hn) rfl hb.2 (by omega) hm ht (txt m 0 ++ [46]) (Lib.hid ?_) (Lib.hid hF) (fun uB hu w he => ?_)
        · rw [e1, show (⟨#[46]⟩ : ByteArray) = ⟨[46].toArray⟩ from rfl, cat]; simp
        · have hz : uB.data.toList = zeros m 0 j := by rw [hu]; rfl
          have := mparse_any uB (hP uB hz) w he
          rw [hz, g1, g2, g3] at this; exact this
      · refine nought_n_true m _ _ _ w he n0 n9 hs HT j rfl (by simpa using hn) (by omega) hb.2 (by omega) hm ht (txt m i) (Lib.hid ?_) (Lib.hid hF) (fun uB hu w he => ?_)
        · rw [e1]; simp
        · have hz : uB.data.toList = zeros m i j := by rw [hu]; unfold zeros; rw [if_neg hi, List.append_nil]
          have := mparse_any uB (hP uB hz) w he
          rw [hz, g1, g2, g3] at this; exact this
    | false =>
      have g3 := zt2 (fun q => by rw [(inR_iff _).2 q] at hF; cases hF)
      have hb3 : parseOk (zeros m i j) = false := by
        cases q : parseOk (zeros m i j) with
        | false => rfl
        | true => rw [(p_fine _ q).2.2] at g3; cases g3
      obtain ⟨g1, g2, _⟩ := p_bad _ hb3
      by_cases hi : i = 0
      · subst hi
        refine nought_d_false m _ _ _ w he n0 n9 hs HT j rfl (by simpa using hn) rfl hb.2 (by omega) hm ht (txt m 0 ++ [46]) (Lib.hid ?_) (Lib.hid hF) (fun uB hu w he => ?_)
        · rw [e1, show (⟨#[46]⟩ : ByteArray) = ⟨[46].toArray⟩ from rfl, cat]; simp
        · have hz : uB.data.toList = zeros m 0 j := by rw [hu]; rfl
          have := mparse_any uB (hP uB hz) w he
          rw [hz, g1, g2, g3] at this; exact this
      · refine nought_n_false m _ _ _ w he n0 n9 hs HT j rfl (by simpa using hn) (by omega) hb.2 (by omega) hm ht (txt m i) (Lib.hid ?_) (Lib.hid hF) (fun uB hu w he => ?_)
        · rw [e1]; simp
        · have hz : uB.data.toList = zeros m i j := by rw [hu]; unfold zeros; rw [if_neg hi, List.append_nil]
          have := mparse_any uB (hP uB hz) w he
          rw [hz, g1, g2, g3] at this; exact this
end Go.Proofs.YtfhgcpmadajbdaaDoor
