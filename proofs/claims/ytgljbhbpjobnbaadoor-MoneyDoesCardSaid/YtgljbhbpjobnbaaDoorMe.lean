/- The walks through sums of numbers of two words (money: sum). -/
import Derived.Test.YtgljbhbpjobnbaaDoorMd
set_option linter.unusedSimpArgs false
set_option linter.unusedVariables false
namespace Go.Proofs.YtgljbhbpjobnbaaDoor
open Go.RowKit
theorem wideV_mk (t : TypeId) (a b : Nat) (hb : b < 18446744073709551616) : wideV t (a * 18446744073709551616 + b) = .iface t (.agg #[.int .u64 a, .int .u64 b]) := by
  unfold wideV
  rw [show (a * 18446744073709551616 + b) / 18446744073709551616 = a by omega, show (a * 18446744073709551616 + b) % 18446744073709551616 = b by omega]
theorem two_mk (a b : Nat) (hb : b < 18446744073709551616) : two (a * 18446744073709551616 + b) = .agg #[.int .u64 a, .int .u64 b] := by
  unfold two
  rw [show (a * 18446744073709551616 + b) / 18446744073709551616 = a by omega, show (a * 18446744073709551616 + b) % 18446744073709551616 = b by omega]
theorem split2 (u : Nat) (h : u < 170141183460469231731687303715884105728) : ∃ a b : Nat, u = a * 18446744073709551616 + b ∧ a < 9223372036854775808 ∧ b < 18446744073709551616 :=
  ⟨u / 18446744073709551616, u % 18446744073709551616, by omega, by omega, by omega⟩
theorem iface_two (t : TypeId) (u : Nat) : Value.iface t (two u) = wideV t u := rfl
theorem or_cmp (a b c d : Nat) (hb : b < 18446744073709551616) (hd : d < 18446744073709551616) : orI (cmpI a c) (cmpI b d) = cmpI ((a * 18446744073709551616 + b : Nat) : Int) ((c * 18446744073709551616 + d : Nat) : Int) := by
  unfold orI cmpI
  repeat' split
  all_goals first | rfl | omega
theorem than_two (a b c d : Nat) (hb : b < 18446744073709551616) (hd : d < 18446744073709551616) (w : World) :
    Calls Tryd.prog 28 #[.agg #[.int .u64 a, .int .u64 b], .agg #[.int .u64 c, .int .u64 d]] w fun e w' => e = .returned (.int .i64 (cmpI ((a * 18446744073709551616 + b : Nat) : Int) ((c * 18446744073709551616 + d : Nat) : Int))) ∧ Below w.heap.size w w' := by
  rw [← or_cmp a b c d hb hd]
  exact than_any a b c d w
theorem retV {x y : Value} (h : x = y) : Ending.returned x = .returned y := by rw [h]
/-- A number of two words, its words named. -/
theorem two_words (u : Nat) : ∃ p q : Nat, two u = .agg #[.int .u64 p, .int .u64 q] := ⟨_, _, rfl⟩
theorem iface_words {t : TypeId} {u p q : Nat} (h : two u = .agg #[.int .u64 p, .int .u64 q]) : Hid (wideV t u = .iface t (.agg #[.int .u64 p, .int .u64 q])) := Lib.hid (by rw [← iface_two, h])
theorem plus_plus (v : Value) (w : World) : (Instr.typeAssert (.iface 61 v) 20 61 true).run Tryd.prog w = .ok (.tuple #[v, .bool true]) w := by kernel_rfl
theorem minus_plus (v : Value) (w : World) : (Instr.typeAssert (.iface 64 v) 20 61 true).run Tryd.prog w = .ok (.tuple #[.agg #[.int .u64 0, .int .u64 0], .bool false]) w := by kernel_rfl
theorem minus_minus (v : Value) (w : World) : (Instr.typeAssert (.iface 64 v) 20 64 true).run Tryd.prog w = .ok (.tuple #[v, .bool true]) w := by kernel_rfl
theorem plus_minus (v : Value) (w : World) : (Instr.typeAssert (.iface 61 v) 20 64 true).run Tryd.prog w = .ok (.tuple #[.agg #[.int .u64 0, .int .u64 0], .bool false]) w := by kernel_rfl
theorem is_minus (v : Value) (w : World) : (Instr.typeAssert (.iface 64 v) 20 64 false).run Tryd.prog w = .ok v w := by kernel_rfl
/-- What a call that only makes blocks leaves. -/
theorem bcell {W w1 : World} (hb : Below W.heap.size W w1) : (∀ b o, b < W.heap.size → w1.cell? ⟨b, o, none⟩ = W.cell? ⟨b, o, none⟩) ∧ (∀ b o, b < W.heap.size → w1.frozen? ⟨b, o, none⟩ = W.frozen? ⟨b, o, none⟩) :=
  ⟨fun b o h => hb.cell (p := ⟨b, o, none⟩) h, fun b o h => hb.frozen (p := ⟨b, o, none⟩) h⟩
set_option maxRecDepth 100000 in
set_option maxHeartbeats 1000000 in
theorem sum_pp (u v : Nat) (hu : u < 170141183460469231731687303715884105728) (hv : v < 170141183460469231731687303715884105728) (w : World) :
    Calls Tryd.prog 21 #[wideV 61 u, wideV 61 v] w fun e w' => e = .returned (wideV 61 (u + v)) ∧ Below w.heap.size w w' := by
  obtain ⟨a, b, rfl, ha, hb⟩ := split2 u hu
  obtain ⟨c, d, rfl, hc, hd⟩ := split2 v hv
  rw [wideV_mk _ a b hb, wideV_mk _ c d hd]
  have H := Lib.hid (fun w => and_any a b c d ha hc hb hd w)
  obtain ⟨p, q, h2⟩ := two_words (a * 18446744073709551616 + b + (c * 18446744073709551616 + d))
  rw [h2] at H
  have HF := iface_words (t := 61) h2
  clear h2 hu hv
  have t1 := plus_plus
  go_enter Tryd.func21, Tryd.ntmps21
  go_wp2_with fail
  refine (H.out _).mono ?_; rintro e w1 ⟨rfl, hb1⟩
  go_wp2_with fail
  go_ret
  refine ⟨retV HF.out.symm, ?_⟩
  refine Below.trans ?_ (hb1.mono (by simp; omega))
  go_grown
set_option maxRecDepth 100000 in
set_option maxHeartbeats 1000000 in
theorem sum_mm (u v : Nat) (hu : u < 170141183460469231731687303715884105728) (hv : v < 170141183460469231731687303715884105728) (w : World) :
    Calls Tryd.prog 21 #[wideV 64 u, wideV 64 v] w fun e w' => e = .returned (wideV 64 (u + v)) ∧ Below w.heap.size w w' := by
  obtain ⟨a, b, rfl, ha, hb⟩ := split2 u hu
  obtain ⟨c, d, rfl, hc, hd⟩ := split2 v hv
  rw [wideV_mk _ a b hb, wideV_mk _ c d hd]
  have H := Lib.hid (fun w => and_any a b c d ha hc hb hd w)
  obtain ⟨p, q, h2⟩ := two_words (a * 18446744073709551616 + b + (c * 18446744073709551616 + d))
  rw [h2] at H
  have HF := iface_words (t := 64) h2
  clear h2 hu hv
  have t1 := minus_plus
  have t2 := minus_minus
  go_enter Tryd.func21, Tryd.ntmps21
  go_wp2_with fail
  refine (H.out _).mono ?_; rintro e w1 ⟨rfl, hb1⟩
  go_wp2_with fail
  go_ret
  refine ⟨retV HF.out.symm, ?_⟩
  refine Below.trans ?_ (hb1.mono (by simp; omega))
  go_grown
set_option maxRecDepth 100000 in
set_option maxHeartbeats 1000000 in
theorem sum_pm_lt (u v : Nat) (hu : u < 170141183460469231731687303715884105728) (hv : v < 170141183460469231731687303715884105728) (h : u < v) (w : World) :
    Calls Tryd.prog 21 #[wideV 61 u, wideV 64 v] w fun e w' => e = .returned (wideV 64 (v - u)) ∧ Below w.heap.size w w' := by
  obtain ⟨a, b, rfl, ha, hb⟩ := split2 u hu
  obtain ⟨c, d, rfl, hc, hd⟩ := split2 v hv
  rw [wideV_mk _ a b hb, wideV_mk _ c d hd]
  have H := Lib.hid (fun w => less_any c d a b hc ha hd hb (Nat.le_of_lt h) w)
  have HT := Lib.hid (fun w => than_two a b c d hb hd w)
  obtain ⟨p, q, h2⟩ := two_words ((c * 18446744073709551616 + d) - (a * 18446744073709551616 + b))
  rw [h2] at H
  have HF := iface_words (t := 64) h2
  obtain ⟨k, hk⟩ : ∃ k, cmpI (((a * 18446744073709551616 + b) : Nat) : Int) (((c * 18446744073709551616 + d) : Nat) : Int) = k := ⟨_, rfl⟩
  rw [hk] at HT
  have hlt : k < 0 := by rw [← hk]; rcases cmpI_val (((a * 18446744073709551616 + b) : Nat) : Int) (((c * 18446744073709551616 + d) : Nat) : Int) with q | q | q <;> omega
  clear h2 hu hv hk h
  have t1 := plus_plus
  have t2 := minus_plus
  have t3 := is_minus
  go_enter Tryd.func21, Tryd.ntmps21
  go_wp2_with fail
  refine (HT.out _).mono ?_; rintro e w1 ⟨rfl, hb1⟩
  obtain ⟨c1, f1⟩ := bcell hb1
  have z1 : w.heap.size + 1 + 1 + 1 ≤ w1.heap.size := by have := hb1.size; simp at this; omega
  go_wp2_with fail
  refine (H.out _).mono ?_; rintro e w2 ⟨rfl, hb2⟩
  go_wp2_with fail
  go_ret
  refine ⟨retV HF.out.symm, ?_⟩
  refine Below.trans ?_ (hb2.mono (by omega))
  refine Below.trans ?_ (hb1.mono (by simp; omega))
  go_grown
set_option maxRecDepth 100000 in
set_option maxHeartbeats 1000000 in
theorem sum_pm_ge (u v : Nat) (hu : u < 170141183460469231731687303715884105728) (hv : v < 170141183460469231731687303715884105728) (h : v ≤ u) (w : World) :
    Calls Tryd.prog 21 #[wideV 61 u, wideV 64 v] w fun e w' => e = .returned (wideV 61 (u - v)) ∧ Below w.heap.size w w' := by
  obtain ⟨a, b, rfl, ha, hb⟩ := split2 u hu
  obtain ⟨c, d, rfl, hc, hd⟩ := split2 v hv
  rw [wideV_mk _ a b hb, wideV_mk _ c d hd]
  have H := Lib.hid (fun w => less_any a b c d ha hc hb hd h w)
  have HT := Lib.hid (fun w => than_two a b c d hb hd w)
  obtain ⟨p, q, h2⟩ := two_words ((a * 18446744073709551616 + b) - (c * 18446744073709551616 + d))
  rw [h2] at H
  have HF := iface_words (t := 61) h2
  obtain ⟨k, hk⟩ : ∃ k, cmpI (((a * 18446744073709551616 + b) : Nat) : Int) (((c * 18446744073709551616 + d) : Nat) : Int) = k := ⟨_, rfl⟩
  rw [hk] at HT
  have hlt : 0 ≤ k := by rw [← hk]; rcases cmpI_val (((a * 18446744073709551616 + b) : Nat) : Int) (((c * 18446744073709551616 + d) : Nat) : Int) with q | q | q <;> omega
  clear h2 hu hv hk h
  have t1 := plus_plus
  have t2 := minus_plus
  have t3 := is_minus
  go_enter Tryd.func21, Tryd.ntmps21
  go_wp2_with fail
  refine (HT.out _).mono ?_; rintro e w1 ⟨rfl, hb1⟩
  obtain ⟨c1, f1⟩ := bcell hb1
  have z1 : w.heap.size + 1 + 1 + 1 ≤ w1.heap.size := by have := hb1.size; simp at this; omega
  go_wp2_with fail
  refine (H.out _).mono ?_; rintro e w2 ⟨rfl, hb2⟩
  go_wp2_with fail
  go_ret
  refine ⟨retV HF.out.symm, ?_⟩
  refine Below.trans ?_ (hb2.mono (by omega))
  refine Below.trans ?_ (hb1.mono (by simp; omega))
  go_grown
set_option maxRecDepth 100000 in
set_option maxHeartbeats 1000000 in
theorem sum_mp (u v : Nat) (w : World) (r : Value) (H : Hid (∀ w, Calls Tryd.prog 21 #[wideV 61 v, wideV 64 u] w fun e w' => e = .returned r ∧ Below w.heap.size w w')) :
    Calls Tryd.prog 21 #[wideV 64 u, wideV 61 v] w fun e w' => e = .returned r ∧ Below w.heap.size w w' := by
  obtain ⟨p, q, h1⟩ := two_words u
  obtain ⟨p', q', h2⟩ := two_words v
  rw [(iface_words h1).out, (iface_words h2).out] at *
  clear h1 h2
  have t1 := plus_minus
  have t2 := minus_plus
  have t3 := minus_minus
  go_enter Tryd.func21, Tryd.ntmps21
  go_wp2_with fail
  refine (H.out _).mono ?_; rintro e w1 ⟨rfl, hb1⟩
  go_wp2_with fail
  go_ret
  refine ⟨rfl, ?_⟩
  refine Below.trans ?_ (hb1.mono (by simp; omega))
  go_grown
end Go.Proofs.YtgljbhbpjobnbaaDoor
