/- The walk through a number at the greatest scale, made one that may be (money: made). -/
import Derived.Test.YtgljbhbpjobnbaaDoorMe
import Derived.Deep.LoopGhost
set_option linter.unusedSimpArgs false
set_option linter.unusedVariables false
namespace Go.Proofs.YtgljbhbpjobnbaaDoor
open Go.RowKit
/-- In one way, on naturals. -/
def nrm : Nat → Nat → Nat × Nat
  | 0, u => (u, 0)
  | s + 1, u => if u % 10 = 0 then nrm s (u / 10) else (u, s + 1)
theorem norm_nrm : ∀ (s u : Nat), norm s (u : Int) = (((nrm s u).1 : Int), (nrm s u).2)
  | 0, u => rfl
  | s + 1, u => by
    rw [norm, nrm]
    by_cases h : u % 10 = 0
    · rw [if_pos (by omega), if_pos h, show (u : Int) / 10 = ((u / 10 : Nat) : Int) by omega, norm_nrm s (u / 10)]
    · rw [if_neg (by omega), if_neg h]
theorem nrm_end (k u : Nat) (h : k = 0 ∨ ¬ u % 10 = 0) : nrm k u = (u, k) := by
  cases k with
  | zero => rfl
  | succ k => rw [nrm, if_neg (by omega)]
theorem nrm_step (k u : Nat) (h : u % 10 = 0) : nrm (k + 1) u = nrm k (u / 10) := by rw [nrm, if_pos h]
def mdM (n : Int) : Int := if inR (norm 18 n).1 then (norm 18 n).1 else 0
def mdS (n : Int) : Int := if inR (norm 18 n).1 then (norm 18 n).2 else 0
def mdE (n : Int) : Int := if inR (norm 18 n).1 then 0 else 20
theorem md_plus (u c k : Nat) (h : nrm 18 u = (c, k)) : (c ≤ 9223372036854775807 → mdM u = c ∧ mdS u = k ∧ mdE u = 0) ∧ (9223372036854775807 < c → mdM u = 0 ∧ mdS u = 0 ∧ mdE u = 20) := by
  unfold mdM mdS mdE
  rw [norm_nrm, h]
  constructor
  · intro hc
    have : inR (c : Int) = true := (inR_iff _).2 ⟨by omega, by omega⟩
    simp only [this, if_true]; exact ⟨trivial, trivial, trivial⟩
  · intro hc
    have : inR (c : Int) = false := by rw [Bool.eq_false_iff]; intro e; have := ((inR_iff _).1 e).2; omega
    simp only [this, Bool.false_eq_true, if_false]; exact ⟨trivial, trivial, trivial⟩
theorem md_minus (u c k : Nat) (h : nrm 18 u = (c, k)) : (c ≤ 9223372036854775808 → mdM (-u) = -c ∧ mdS (-u) = k ∧ mdE (-u) = 0) ∧ (9223372036854775808 < c → mdM (-u) = 0 ∧ mdS (-u) = 0 ∧ mdE (-u) = 20) := by
  unfold mdM mdS mdE
  rw [norm_neg, norm_nrm, h]
  constructor
  · intro hc
    have : inR (-(c : Int)) = true := (inR_iff _).2 ⟨by omega, by omega⟩
    simp only [this, if_true]; exact ⟨trivial, trivial, trivial⟩
  · intro hc
    have : inR (-(c : Int)) = false := by rw [Bool.eq_false_iff]; intro e; have := ((inR_iff _).1 e).1; omega
    simp only [this, Bool.false_eq_true, if_false]; exact ⟨trivial, trivial, trivial⟩
theorem two_part (u : Nat) (hu : u < 170141183460469231731687303715884105728) : ∃ p q : Nat, two u = .agg #[.int .u64 p, .int .u64 q] ∧ u = p * 18446744073709551616 + q ∧ p < 9223372036854775808 ∧ q < 18446744073709551616 :=
  ⟨u / 18446744073709551616, u % 18446744073709551616, rfl, by omega, by omega, by omega⟩
theorem ret_md {a b c a' b' c' : Int} (h : a = a' ∧ b = b' ∧ c = c') : Ending.returned (.tuple #[.agg #[.int .i64 a, .int .i64 b], .int .i64 c]) = .returned (.tuple #[.agg #[.int .i64 a', .int .i64 b'], .int .i64 c']) := by
  rw [h.1, h.2.1, h.2.2]
theorem over_md {rM rS rE : Int} (h : rM = 0 ∧ rS = 0 ∧ rE = 20) : 0 = rM ∧ 0 = rS ∧ 20 = rE := by omega
theorem fine_md {rM rS rE x y z s : Int} (h : rM = x ∧ rS = s ∧ rE = 0) (h' : y = x) (h2 : z = s) : y = rM ∧ z = rS ∧ 0 = rE := by omega
theorem tenth_of (c h l : Nat) (hc : c = h * 18446744073709551616 + l) (hh : h < 18446744073709551616) (hl : l < 18446744073709551616) (w : World) :
    Calls Tryd.prog 39 #[.agg #[.int .u64 h, .int .u64 l]] w fun e w' => e = .returned (.tuple #[two (c / 10), .int .u64 ((c % 10 : Nat) : Int)]) ∧ Below w.heap.size w w' := by
  subst hc; exact tenth_any h l hh hl w
set_option maxRecDepth 100000 in
set_option maxHeartbeats 2000000 in
theorem made_plus (u : Nat) (hu : u < 170141183460469231731687303715884105728) (w : World) :
    Calls Tryd.prog 20 #[wideV 61 u] w fun e w' => e = .returned (.tuple #[.agg #[.int .i64 (mdM (u : Int)), .int .i64 (mdS (u : Int))], .int .i64 (mdE (u : Int))]) ∧ Below w.heap.size w w' := by
  have hmd := md_plus u
  generalize mdM (u : Int) = rM at *
  generalize mdS (u : Int) = rS at *
  generalize mdE (u : Int) = rE at *
  obtain ⟨a, b, hab, ha, hb⟩ := split2 u hu
  rw [show wideV 61 u = .iface 61 (.agg #[.int .u64 a, .int .u64 b]) by rw [hab, wideV_mk _ a b hb]]
  obtain ⟨N0, hN0⟩ : ∃ x, nrm 18 u = x := ⟨_, rfl⟩
  have HAB : Hid (u = a * 18446744073709551616 + b ∧ N0 = nrm 18 u) := Lib.hid ⟨hab, hN0.symm⟩
  rw [hN0] at hmd
  have HMD := Lib.hid hmd
  clear hu hab hmd hN0
  have t1 := plus_plus
  have t2 := plus_minus
  go_enter Tryd.func20, Tryd.ntmps20
  go_wp2_with fail
  go_loopw [8] (fun s wr => ∃ k c hi lo : Nat, k ≤ 18 ∧ s = .int .i64 k ∧ hi < 9223372036854775808 ∧ lo < 18446744073709551616 ∧ Hid (c = hi * 18446744073709551616 + lo ∧ N0 = nrm k c) ∧ wr.cell? ⟨w.heap.size + 1, 0, none⟩ = some (.int .u64 hi) ∧ wr.cell? ⟨w.heap.size + 1, 1, none⟩ = some (.int .u64 lo) ∧ wr.frozen? ⟨w.heap.size + 1, 0, none⟩ = false ∧ wr.frozen? ⟨w.heap.size + 1, 1, none⟩ = false ∧ wr.cell? ⟨w.heap.size, 0, none⟩ = some (.int .i64 0) ∧ wr.cell? ⟨w.heap.size, 1, none⟩ = some (.int .i64 0) ∧ wr.frozen? ⟨w.heap.size, 0, none⟩ = false ∧ wr.frozen? ⟨w.heap.size, 1, none⟩ = false ∧ w.heap.size + 2 < wr.heap.size ∧ Below w.heap.size w wr) (fun s _ => (intOf s).toNat)
  case atStart =>
    refine ⟨18, u, a, b, by omega, rfl, ha, hb, HAB, by simp [go_sem], by simp [go_sem], by simp [go_sem], by simp [go_sem], by simp [go_sem], by simp [go_sem], by simp [go_sem], by simp [go_sem], by simp, ?_⟩
    go_grown
  case round =>
    obtain ⟨k, c, hi, lo, hk, rfl, hhi, hlo, HN, c0, c1, f0, f1, d0, d1, g0, g1, hz, hbw⟩ := hrel
    have z0 : w.heap.size < wr.heap.size := by omega
    have z1 : w.heap.size + 1 < wr.heap.size := by omega
    by_cases hk0 : k = 0
    · subst hk0
      have HE := Lib.hid (HMD.out c 0 (HN.out.2.trans (nrm_end 0 c (.inl rfl))))
      by_cases hov : 0 < hi
      · go_wp2_with fail
        refine bodyPost_ret (v := .tuple #[.agg #[.int .i64 0, .int .i64 0], .int .i64 20]) (by simp [results, Tryd.results20, go_sem, *]) rfl ⟨ret_md ?_, ?_⟩
        · exact over_md (HE.out.2 (by have := HN.out.1; omega))
        · go_grown
      · by_cases hov2 : 9223372036854775807 < lo
        · go_wp2_with fail
          refine bodyPost_ret (v := .tuple #[.agg #[.int .i64 0, .int .i64 0], .int .i64 20]) (by simp [results, Tryd.results20, go_sem, *]) rfl ⟨ret_md ?_, ?_⟩
          · exact over_md (HE.out.2 (by have := HN.out.1; omega))
          · go_grown
        · obtain rfl : hi = 0 := by omega
          have hlb : (lo : Int) ≤ 9223372036854775807 := by omega
          go_wp2_with fail
          refine bodyPost_ret (v := .tuple #[.agg #[.int .i64 (lo : Int), .int .i64 ((0 : Nat) : Int)], .int .i64 0]) (by simp [results, Tryd.results20, go_sem, *]) rfl ⟨ret_md ?_, ?_⟩
          · exact fine_md (HE.out.1 (by have := HN.out.1; omega)) (by have := HN.out.1; omega) (by omega)
          · go_grown
    · obtain ⟨j, rfl⟩ : ∃ j, k = j + 1 := ⟨k - 1, by omega⟩
      have HT := Lib.hid (fun w => tenth_of c hi lo HN.out.1 (by omega) hlo w)
      obtain ⟨p, q, h2, h3, hp, hq⟩ := two_part (c / 10) (by have := HN.out.1; omega)
      rw [h2] at HT
      have HP := Lib.hid h3
      clear h2 h3
      by_cases hl : c % 10 = 0
      · have HS := Lib.hid (HN.out.2.trans (nrm_step j c hl))
        rw [hl] at HT
        clear hl hk0
        go_wp2_with fail
        refine (HT.out _).mono ?_; rintro e w1 ⟨rfl, hb1⟩
        obtain ⟨cc, ff⟩ := bcell hb1
        have z0' : w.heap.size < w1.heap.size := by have := hb1.size; omega
        have z1' : w.heap.size + 1 < w1.heap.size := by have := hb1.size; omega
        have hz1 : w.heap.size + 2 < w1.heap.size := by have := hb1.size; omega
        have hbw1 : Below w.heap.size w w1 := hbw.trans (hb1.mono (by omega))
        have c0' := (cc _ 0 z1).trans c0
        have c1' := (cc _ 1 z1).trans c1
        have f0' := (ff _ 0 z1).trans f0
        have f1' := (ff _ 1 z1).trans f1
        have d0' := (cc _ 0 z0).trans d0
        have d1' := (cc _ 1 z0).trans d1
        have g0' := (ff _ 0 z0).trans g0
        have g1' := (ff _ 1 z0).trans g1
        clear cc ff c0 c1 f0 f1 d0 d1 g0 g1 hbw hz z0 z1 hb1
        go_wp2_with fail
        go_roundw
        case rel =>
          refine ⟨j, c / 10, p, q, by omega, by go_num, hp, hq, Lib.hid ⟨HP.out, HS.out⟩, by simp [go_sem, *], by simp [go_sem, *], by simp [go_sem, *], by simp [go_sem, *], by simp [go_sem, *], by simp [go_sem, *], by simp [go_sem, *], by simp [go_sem, *], by simp; omega, ?_⟩
          go_grown
        case measure => simp [intOf]
      · have HE := Lib.hid (HMD.out c (j + 1) (HN.out.2.trans (nrm_end (j + 1) c (.inr hl))))
        obtain ⟨r, hr⟩ : ∃ r : Nat, c % 10 = r := ⟨_, rfl⟩
        have hr0 : 0 < r := by omega
        rw [hr] at HT
        clear hl hr hk0
        by_cases hov : 0 < hi
        · go_wp2_with fail
          refine (HT.out _).mono ?_; rintro e w1 ⟨rfl, hb1⟩
          obtain ⟨cc, ff⟩ := bcell hb1
          have z0' : w.heap.size < w1.heap.size := by have := hb1.size; omega
          have z1' : w.heap.size + 1 < w1.heap.size := by have := hb1.size; omega
          have hz1 : w.heap.size + 2 < w1.heap.size := by have := hb1.size; omega
          have hbw1 : Below w.heap.size w w1 := hbw.trans (hb1.mono (by omega))
          have c0' := (cc _ 0 z1).trans c0
          have c1' := (cc _ 1 z1).trans c1
          have f0' := (ff _ 0 z1).trans f0
          have f1' := (ff _ 1 z1).trans f1
          have d0' := (cc _ 0 z0).trans d0
          have d1' := (cc _ 1 z0).trans d1
          have g0' := (ff _ 0 z0).trans g0
          have g1' := (ff _ 1 z0).trans g1
          clear cc ff c0 c1 f0 f1 d0 d1 g0 g1 hbw hz z0 z1 hb1
          go_wp2_with fail
          refine bodyPost_ret (v := .tuple #[.agg #[.int .i64 0, .int .i64 0], .int .i64 20]) (by simp [results, Tryd.results20, go_sem, *]) rfl ⟨ret_md ?_, ?_⟩
          · exact over_md (HE.out.2 (by have := HN.out.1; omega))
          · go_grown
        · by_cases hov2 : 9223372036854775807 < lo
          · go_wp2_with fail
            refine (HT.out _).mono ?_; rintro e w1 ⟨rfl, hb1⟩
            obtain ⟨cc, ff⟩ := bcell hb1
            have z0' : w.heap.size < w1.heap.size := by have := hb1.size; omega
            have z1' : w.heap.size + 1 < w1.heap.size := by have := hb1.size; omega
            have hz1 : w.heap.size + 2 < w1.heap.size := by have := hb1.size; omega
            have hbw1 : Below w.heap.size w w1 := hbw.trans (hb1.mono (by omega))
            have c0' := (cc _ 0 z1).trans c0
            have c1' := (cc _ 1 z1).trans c1
            have f0' := (ff _ 0 z1).trans f0
            have f1' := (ff _ 1 z1).trans f1
            have d0' := (cc _ 0 z0).trans d0
            have d1' := (cc _ 1 z0).trans d1
            have g0' := (ff _ 0 z0).trans g0
            have g1' := (ff _ 1 z0).trans g1
            clear cc ff c0 c1 f0 f1 d0 d1 g0 g1 hbw hz z0 z1 hb1
            go_wp2_with fail
            refine bodyPost_ret (v := .tuple #[.agg #[.int .i64 0, .int .i64 0], .int .i64 20]) (by simp [results, Tryd.results20, go_sem, *]) rfl ⟨ret_md ?_, ?_⟩
            · exact over_md (HE.out.2 (by have := HN.out.1; omega))
            · go_grown
          · obtain rfl : hi = 0 := by omega
            have hlb : (lo : Int) ≤ 9223372036854775807 := by omega
            go_wp2_with fail
            refine (HT.out _).mono ?_; rintro e w1 ⟨rfl, hb1⟩
            obtain ⟨cc, ff⟩ := bcell hb1
            have z0' : w.heap.size < w1.heap.size := by have := hb1.size; omega
            have z1' : w.heap.size + 1 < w1.heap.size := by have := hb1.size; omega
            have hz1 : w.heap.size + 2 < w1.heap.size := by have := hb1.size; omega
            have hbw1 : Below w.heap.size w w1 := hbw.trans (hb1.mono (by omega))
            have c0' := (cc _ 0 z1).trans c0
            have c1' := (cc _ 1 z1).trans c1
            have f0' := (ff _ 0 z1).trans f0
            have f1' := (ff _ 1 z1).trans f1
            have d0' := (cc _ 0 z0).trans d0
            have d1' := (cc _ 1 z0).trans d1
            have g0' := (ff _ 0 z0).trans g0
            have g1' := (ff _ 1 z0).trans g1
            clear cc ff c0 c1 f0 f1 d0 d1 g0 g1 hbw hz z0 z1 hb1
            go_wp2_with fail
            refine bodyPost_ret (v := .tuple #[.agg #[.int .i64 (lo : Int), .int .i64 ((j : Int) + 1)], .int .i64 0]) (by simp [results, Tryd.results20, go_sem, *]) rfl ⟨ret_md ?_, ?_⟩
            · exact fine_md (HE.out.1 (by have := HN.out.1; omega)) (by have := HN.out.1; omega) (by omega)
            · go_grown
set_option maxRecDepth 100000 in
set_option maxHeartbeats 2000000 in
theorem made_minus (u : Nat) (hu : u < 170141183460469231731687303715884105728) (w : World) :
    Calls Tryd.prog 20 #[wideV 64 u] w fun e w' => e = .returned (.tuple #[.agg #[.int .i64 (mdM (-(u : Int))), .int .i64 (mdS (-(u : Int)))], .int .i64 (mdE (-(u : Int)))]) ∧ Below w.heap.size w w' := by
  have hmd := md_minus u
  generalize mdM (-(u : Int)) = rM at *
  generalize mdS (-(u : Int)) = rS at *
  generalize mdE (-(u : Int)) = rE at *
  obtain ⟨a, b, hab, ha, hb⟩ := split2 u hu
  rw [show wideV 64 u = .iface 64 (.agg #[.int .u64 a, .int .u64 b]) by rw [hab, wideV_mk _ a b hb]]
  obtain ⟨N0, hN0⟩ : ∃ x, nrm 18 u = x := ⟨_, rfl⟩
  have HAB : Hid (u = a * 18446744073709551616 + b ∧ N0 = nrm 18 u) := Lib.hid ⟨hab, hN0.symm⟩
  rw [hN0] at hmd
  have HMD := Lib.hid hmd
  clear hu hab hmd hN0
  have t1 := minus_plus
  have t2 := minus_minus
  go_enter Tryd.func20, Tryd.ntmps20
  go_wp2_with fail
  go_loopw [8] (fun s wr => ∃ k c hi lo : Nat, k ≤ 18 ∧ s = .int .i64 k ∧ hi < 9223372036854775808 ∧ lo < 18446744073709551616 ∧ Hid (c = hi * 18446744073709551616 + lo ∧ N0 = nrm k c) ∧ wr.cell? ⟨w.heap.size + 1, 0, none⟩ = some (.int .u64 hi) ∧ wr.cell? ⟨w.heap.size + 1, 1, none⟩ = some (.int .u64 lo) ∧ wr.frozen? ⟨w.heap.size + 1, 0, none⟩ = false ∧ wr.frozen? ⟨w.heap.size + 1, 1, none⟩ = false ∧ wr.cell? ⟨w.heap.size, 0, none⟩ = some (.int .i64 0) ∧ wr.cell? ⟨w.heap.size, 1, none⟩ = some (.int .i64 0) ∧ wr.frozen? ⟨w.heap.size, 0, none⟩ = false ∧ wr.frozen? ⟨w.heap.size, 1, none⟩ = false ∧ w.heap.size + 2 < wr.heap.size ∧ Below w.heap.size w wr) (fun s _ => (intOf s).toNat)
  case atStart =>
    refine ⟨18, u, a, b, by omega, rfl, ha, hb, HAB, by simp [go_sem], by simp [go_sem], by simp [go_sem], by simp [go_sem], by simp [go_sem], by simp [go_sem], by simp [go_sem], by simp [go_sem], by simp, ?_⟩
    go_grown
  case round =>
    obtain ⟨k, c, hi, lo, hk, rfl, hhi, hlo, HN, c0, c1, f0, f1, d0, d1, g0, g1, hz, hbw⟩ := hrel
    have z0 : w.heap.size < wr.heap.size := by omega
    have z1 : w.heap.size + 1 < wr.heap.size := by omega
    by_cases hk0 : k = 0
    · subst hk0
      have HE := Lib.hid (HMD.out c 0 (HN.out.2.trans (nrm_end 0 c (.inl rfl))))
      by_cases hov : 0 < hi
      · go_wp2_with fail
        refine bodyPost_ret (v := .tuple #[.agg #[.int .i64 0, .int .i64 0], .int .i64 20]) (by simp [results, Tryd.results20, go_sem, *]) rfl ⟨ret_md ?_, ?_⟩
        · exact over_md (HE.out.2 (by have := HN.out.1; omega))
        · go_grown
      · by_cases hov2 : 9223372036854775808 < lo
        · go_wp2_with fail
          refine bodyPost_ret (v := .tuple #[.agg #[.int .i64 0, .int .i64 0], .int .i64 20]) (by simp [results, Tryd.results20, go_sem, *]) rfl ⟨ret_md ?_, ?_⟩
          · exact over_md (HE.out.2 (by have := HN.out.1; omega))
          · go_grown
        · obtain rfl : hi = 0 := by omega
          have hlb : (lo : Int) ≤ 9223372036854775808 := by omega
          have hwr : wrap64 (IntKind.u64.wrap (-(lo : Int))) = -(lo : Int) := by simp only [IntKind.wrap_u64, wrap64]; omega
          go_wp2_with fail
          refine bodyPost_ret (v := .tuple #[.agg #[.int .i64 (-(lo : Int)), .int .i64 ((0 : Nat) : Int)], .int .i64 0]) (by simp [results, Tryd.results20, go_sem, *]) rfl ⟨ret_md ?_, ?_⟩
          · exact fine_md (HE.out.1 (by have := HN.out.1; omega)) (by have := HN.out.1; omega) (by omega)
          · go_grown
    · obtain ⟨j, rfl⟩ : ∃ j, k = j + 1 := ⟨k - 1, by omega⟩
      have HT := Lib.hid (fun w => tenth_of c hi lo HN.out.1 (by omega) hlo w)
      obtain ⟨p, q, h2, h3, hp, hq⟩ := two_part (c / 10) (by have := HN.out.1; omega)
      rw [h2] at HT
      have HP := Lib.hid h3
      clear h2 h3
      by_cases hl : c % 10 = 0
      · have HS := Lib.hid (HN.out.2.trans (nrm_step j c hl))
        rw [hl] at HT
        clear hl hk0
        go_wp2_with fail
        refine (HT.out _).mono ?_; rintro e w1 ⟨rfl, hb1⟩
        obtain ⟨cc, ff⟩ := bcell hb1
        have z0' : w.heap.size < w1.heap.size := by have := hb1.size; omega
        have z1' : w.heap.size + 1 < w1.heap.size := by have := hb1.size; omega
        have hz1 : w.heap.size + 2 < w1.heap.size := by have := hb1.size; omega
        have hbw1 : Below w.heap.size w w1 := hbw.trans (hb1.mono (by omega))
        have c0' := (cc _ 0 z1).trans c0
        have c1' := (cc _ 1 z1).trans c1
        have f0' := (ff _ 0 z1).trans f0
        have f1' := (ff _ 1 z1).trans f1
        have d0' := (cc _ 0 z0).trans d0
        have d1' := (cc _ 1 z0).trans d1
        have g0' := (ff _ 0 z0).trans g0
        have g1' := (ff _ 1 z0).trans g1
        clear cc ff c0 c1 f0 f1 d0 d1 g0 g1 hbw hz z0 z1 hb1
        go_wp2_with fail
        go_roundw
        case rel =>
          refine ⟨j, c / 10, p, q, by omega, by go_num, hp, hq, Lib.hid ⟨HP.out, HS.out⟩, by simp [go_sem, *], by simp [go_sem, *], by simp [go_sem, *], by simp [go_sem, *], by simp [go_sem, *], by simp [go_sem, *], by simp [go_sem, *], by simp [go_sem, *], by simp; omega, ?_⟩
          go_grown
        case measure => simp [intOf]
      · have HE := Lib.hid (HMD.out c (j + 1) (HN.out.2.trans (nrm_end (j + 1) c (.inr hl))))
        obtain ⟨r, hr⟩ : ∃ r : Nat, c % 10 = r := ⟨_, rfl⟩
        have hr0 : 0 < r := by omega
        rw [hr] at HT
        clear hl hr hk0
        by_cases hov : 0 < hi
        · go_wp2_with fail
          refine (HT.out _).mono ?_; rintro e w1 ⟨rfl, hb1⟩
          obtain ⟨cc, ff⟩ := bcell hb1
          have z0' : w.heap.size < w1.heap.size := by have := hb1.size; omega
          have z1' : w.heap.size + 1 < w1.heap.size := by have := hb1.size; omega
          have hz1 : w.heap.size + 2 < w1.heap.size := by have := hb1.size; omega
          have hbw1 : Below w.heap.size w w1 := hbw.trans (hb1.mono (by omega))
          have c0' := (cc _ 0 z1).trans c0
          have c1' := (cc _ 1 z1).trans c1
          have f0' := (ff _ 0 z1).trans f0
          have f1' := (ff _ 1 z1).trans f1
          have d0' := (cc _ 0 z0).trans d0
          have d1' := (cc _ 1 z0).trans d1
          have g0' := (ff _ 0 z0).trans g0
          have g1' := (ff _ 1 z0).trans g1
          clear cc ff c0 c1 f0 f1 d0 d1 g0 g1 hbw hz z0 z1 hb1
          go_wp2_with fail
          refine bodyPost_ret (v := .tuple #[.agg #[.int .i64 0, .int .i64 0], .int .i64 20]) (by simp [results, Tryd.results20, go_sem, *]) rfl ⟨ret_md ?_, ?_⟩
          · exact over_md (HE.out.2 (by have := HN.out.1; omega))
          · go_grown
        · by_cases hov2 : 9223372036854775808 < lo
          · go_wp2_with fail
            refine (HT.out _).mono ?_; rintro e w1 ⟨rfl, hb1⟩
            obtain ⟨cc, ff⟩ := bcell hb1
            have z0' : w.heap.size < w1.heap.size := by have := hb1.size; omega
            have z1' : w.heap.size + 1 < w1.heap.size := by have := hb1.size; omega
            have hz1 : w.heap.size + 2 < w1.heap.size := by have := hb1.size; omega
            have hbw1 : Below w.heap.size w w1 := hbw.trans (hb1.mono (by omega))
            have c0' := (cc _ 0 z1).trans c0
            have c1' := (cc _ 1 z1).trans c1
            have f0' := (ff _ 0 z1).trans f0
            have f1' := (ff _ 1 z1).trans f1
            have d0' := (cc _ 0 z0).trans d0
            have d1' := (cc _ 1 z0).trans d1
            have g0' := (ff _ 0 z0).trans g0
            have g1' := (ff _ 1 z0).trans g1
            clear cc ff c0 c1 f0 f1 d0 d1 g0 g1 hbw hz z0 z1 hb1
            go_wp2_with fail
            refine bodyPost_ret (v := .tuple #[.agg #[.int .i64 0, .int .i64 0], .int .i64 20]) (by simp [results, Tryd.results20, go_sem, *]) rfl ⟨ret_md ?_, ?_⟩
            · exact over_md (HE.out.2 (by have := HN.out.1; omega))
            · go_grown
          · obtain rfl : hi = 0 := by omega
            have hlb : (lo : Int) ≤ 9223372036854775808 := by omega
            have hwr : wrap64 (IntKind.u64.wrap (-(lo : Int))) = -(lo : Int) := by simp only [IntKind.wrap_u64, wrap64]; omega
            go_wp2_with fail
            refine (HT.out _).mono ?_; rintro e w1 ⟨rfl, hb1⟩
            obtain ⟨cc, ff⟩ := bcell hb1
            have z0' : w.heap.size < w1.heap.size := by have := hb1.size; omega
            have z1' : w.heap.size + 1 < w1.heap.size := by have := hb1.size; omega
            have hz1 : w.heap.size + 2 < w1.heap.size := by have := hb1.size; omega
            have hbw1 : Below w.heap.size w w1 := hbw.trans (hb1.mono (by omega))
            have c0' := (cc _ 0 z1).trans c0
            have c1' := (cc _ 1 z1).trans c1
            have f0' := (ff _ 0 z1).trans f0
            have f1' := (ff _ 1 z1).trans f1
            have d0' := (cc _ 0 z0).trans d0
            have d1' := (cc _ 1 z0).trans d1
            have g0' := (ff _ 0 z0).trans g0
            have g1' := (ff _ 1 z0).trans g1
            clear cc ff c0 c1 f0 f1 d0 d1 g0 g1 hbw hz z0 z1 hb1
            go_wp2_with fail
            refine bodyPost_ret (v := .tuple #[.agg #[.int .i64 (-(lo : Int)), .int .i64 ((j : Int) + 1)], .int .i64 0]) (by simp [results, Tryd.results20, go_sem, *]) rfl ⟨ret_md ?_, ?_⟩
            · exact fine_md (HE.out.1 (by have := HN.out.1; omega)) (by have := HN.out.1; omega) (by omega)
            · go_grown
end Go.Proofs.YtgljbhbpjobnbaaDoor
