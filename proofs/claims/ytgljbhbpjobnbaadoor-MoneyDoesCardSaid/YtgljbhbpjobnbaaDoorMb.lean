/- The walks through numbers of two words (money: than, and, less; cmp.Or, cmp.Compare). -/
import Derived.Test.YtgljbhbpjobnbaaDoorMa
import Derived.Shelf.Spec.BitsCarry
set_option linter.unusedSimpArgs false
set_option linter.unusedVariables false
namespace Go.Proofs.YtgljbhbpjobnbaaDoor
open Go.RowKit
set_option maxRecDepth 100000 in
set_option maxHeartbeats 1000000 in
theorem ccmp_any (x y : Int) (w : World) :
    Calls Tryd.prog 44 #[.int .u64 x, .int .u64 y] w fun e w' => e = .returned (.int .i64 (cmpI x y)) ∧ w = w' := by
  go_enter Tryd.func44, Tryd.ntmps44
  go_wp2
  all_goals
    go_ret
    refine ⟨ret_im ?_, rfl⟩
    go_light
    unfold cmpI
    repeat' split
    all_goals omega
def orI (x y : Int) : Int := if x = 0 then y else x
set_option maxRecDepth 100000 in
set_option maxHeartbeats 1000000 in
theorem cor_any (g : Nat) (x y : Int) (w : World) (h0 : w.cell? ⟨g, 0, none⟩ = some (.int .i64 x)) (h1 : w.cell? ⟨g, 1, none⟩ = some (.int .i64 y)) :
    Calls Tryd.prog 43 #[.slice (some ⟨g, 0, none⟩) 2 2] w fun e w' => e = .returned (.int .i64 (orI x y)) ∧ w = w' := by
  by_cases hx : x = 0
  · subst hx
    by_cases hy : y = 0
    · subst hy
      go_enter Tryd.func43, Tryd.ntmps43
      go_wp2_with fail
      refine wp_loop_rounds 3 ?_
      repeat any_goals (rw [rounds_succ]; go_wp2)
      all_goals (go_ret; exact ⟨rfl, rfl⟩)
    · have hy1 : (y != 0) = true := by simpa using hy
      have HY := Lib.hid hy
      clear hy
      go_enter Tryd.func43, Tryd.ntmps43
      go_wp2_with fail
      refine wp_loop_rounds 3 ?_
      repeat any_goals (rw [rounds_succ]; go_wp2)
      all_goals (go_ret; exact ⟨rfl, rfl⟩)
  · have hx1 : (x != 0) = true := by simpa using hx
    have HX : Hid (orI x y = x) := if_neg hx
    clear hx
    go_enter Tryd.func43, Tryd.ntmps43
    go_wp2_with fail
    refine wp_loop_rounds 3 ?_
    repeat any_goals (rw [rounds_succ]; go_wp2)
    all_goals (go_ret; exact ⟨ret_im HX.out.symm, rfl⟩)
theorem add64_run (x y c : Nat) (hx : x < 18446744073709551616) (hy : y < 18446744073709551616) (hc : c ≤ 1) (w : World) :
    (callFunc 51 #[.int .u64 x, .int .u64 y, .int .u64 c]).run Tryd.prog w =
      .ok (.value (.tuple #[.int .u64 (((x + y + c) % 18446744073709551616 : Nat) : Int), .int .u64 (((x + y + c) / 18446744073709551616 : Nat) : Int)])) w := by
  rw [run_callFunc_extern Tryd.func51 (by kernel_rfl) (by kernel_rfl) (by kernel_rfl) (e := add64Entry) (by kernel_rfl), run_add64 x y c (by omega) (by omega) (by omega) (by omega)]
  simp only [Result.andThen]
  congr 5 <;> omega
theorem sub64_run (x y b : Nat) (hb : b ≤ 1) (w : World) :
    (callFunc 52 #[.int .u64 x, .int .u64 y, .int .u64 b]).run Tryd.prog w =
      .ok (.value (.tuple #[.int .u64 (((x + 18446744073709551616 - y - b) % 18446744073709551616 : Nat) : Int), .int .u64 ((if x < y + b then 1 else 0 : Nat) : Int)])) w := by
  rw [run_callFunc_extern Tryd.func52 (by kernel_rfl) (by kernel_rfl) (by kernel_rfl) (e := sub64Entry) (by kernel_rfl), run_sub64 x y b hb]
  rfl
theorem add64_int (x y c : Int) (hx : 0 ≤ x ∧ x < 18446744073709551616) (hy : 0 ≤ y ∧ y < 18446744073709551616) (hc : 0 ≤ c ∧ c ≤ 1) (w : World) :
    (callFunc 51 #[.int .u64 x, .int .u64 y, .int .u64 c]).run Tryd.prog w = .ok (.value (.tuple #[.int .u64 ((x + y + c) % 18446744073709551616), .int .u64 ((x + y + c) / 18446744073709551616)])) w := by
  obtain ⟨a, rfl⟩ := Int.eq_ofNat_of_zero_le hx.1
  obtain ⟨b, rfl⟩ := Int.eq_ofNat_of_zero_le hy.1
  obtain ⟨d, rfl⟩ := Int.eq_ofNat_of_zero_le hc.1
  rw [add64_run a b d (by omega) (by omega) (by omega) w, Int.natCast_emod, Int.natCast_ediv, Int.natCast_add, Int.natCast_add]; rfl
theorem sub64_int (x y b : Int) (hx : 0 ≤ x ∧ x < 18446744073709551616) (hy : 0 ≤ y ∧ y < 18446744073709551616) (hb : 0 ≤ b ∧ b ≤ 1) (w : World) :
    (callFunc 52 #[.int .u64 x, .int .u64 y, .int .u64 b]).run Tryd.prog w = .ok (.value (.tuple #[.int .u64 ((x - y - b) % 18446744073709551616), .int .u64 (if x < y + b then 1 else 0)])) w := by
  obtain ⟨a, rfl⟩ := Int.eq_ofNat_of_zero_le hx.1
  obtain ⟨c, rfl⟩ := Int.eq_ofNat_of_zero_le hy.1
  obtain ⟨d, rfl⟩ := Int.eq_ofNat_of_zero_le hb.1
  rw [sub64_run a c d (by omega) w]
  have e1 : (((a + 18446744073709551616 - c - d) % 18446744073709551616 : Nat) : Int) = ((a : Int) - c - d) % 18446744073709551616 := by omega
  have e2 : ((if a < c + d then 1 else 0 : Nat) : Int) = if (a : Int) < c + d then 1 else 0 := by split <;> split <;> omega
  rw [e1, e2]
/-- A number of two words. -/
def two (u : Nat) : Value := .agg #[.int .u64 ((u / 18446744073709551616 : Nat) : Int), .int .u64 ((u % 18446744073709551616 : Nat) : Int)]
theorem two_eq (u : Nat) (h l : Int) (e1 : h = ((u / 18446744073709551616 : Nat) : Int)) (e2 : l = ((u % 18446744073709551616 : Nat) : Int)) : Ending.returned (.agg #[.int .u64 h, .int .u64 l]) = .returned (two u) := by
  subst e1; subst e2; rfl
theorem two_add (a b c d : Nat) (ha : a < 9223372036854775808) (hc : c < 9223372036854775808) (hb : b < 18446744073709551616) (hd : d < 18446744073709551616) :
    Ending.returned (.agg #[.int .u64 (((a : Int) + c + ((b : Int) + d) / 18446744073709551616) % 18446744073709551616), .int .u64 (((b : Int) + d) % 18446744073709551616)]) = .returned (two (a * 18446744073709551616 + b + (c * 18446744073709551616 + d))) :=
  two_eq _ _ _ (by omega) (by omega)
theorem two_sub1 (a b c d : Nat) (ha : a < 9223372036854775808) (hc : c < 9223372036854775808) (hb : b < 18446744073709551616) (hd : d < 18446744073709551616) (hle : c * 18446744073709551616 + d ≤ a * 18446744073709551616 + b) (h : (b : Int) < d) :
    Ending.returned (.agg #[.int .u64 (((a : Int) - c - 1) % 18446744073709551616), .int .u64 (((b : Int) - d) % 18446744073709551616)]) = .returned (two (a * 18446744073709551616 + b - (c * 18446744073709551616 + d))) :=
  two_eq _ _ _ (by omega) (by omega)
theorem two_sub0 (a b c d : Nat) (ha : a < 9223372036854775808) (hc : c < 9223372036854775808) (hb : b < 18446744073709551616) (hd : d < 18446744073709551616) (hle : c * 18446744073709551616 + d ≤ a * 18446744073709551616 + b) (h : (d : Int) ≤ b) :
    Ending.returned (.agg #[.int .u64 (((a : Int) - c) % 18446744073709551616), .int .u64 (((b : Int) - d) % 18446744073709551616)]) = .returned (two (a * 18446744073709551616 + b - (c * 18446744073709551616 + d))) :=
  two_eq _ _ _ (by omega) (by omega)
set_option maxRecDepth 100000 in
set_option maxHeartbeats 1000000 in
theorem and_any (a b c d : Nat) (ha : a < 9223372036854775808) (hc : c < 9223372036854775808) (hb : b < 18446744073709551616) (hd : d < 18446744073709551616) (w : World) :
    Calls Tryd.prog 40 #[.agg #[.int .u64 a, .int .u64 b], .agg #[.int .u64 c, .int .u64 d]] w fun e w' => e = .returned (two (a * 18446744073709551616 + b + (c * 18446744073709551616 + d))) ∧ Below w.heap.size w w' := by
  have h1 := fun w => add64_int b d 0 (by omega) (by omega) (by omega) w
  have h2 := fun w => add64_int a c (((b : Int) + d) / 18446744073709551616) (by omega) (by omega) (by omega) w
  rw [Int.add_zero] at h1
  go_enter Tryd.func40, Tryd.ntmps40
  go_wp2_with fail
  refine bodyPost_ret (v := .agg #[.int .u64 (((a : Int) + c + ((b : Int) + d) / 18446744073709551616) % 18446744073709551616), .int .u64 (((b : Int) + d) % 18446744073709551616)]) (by simp [results, Tryd.results40, go_sem]) rfl ⟨two_add a b c d ha hc hb hd, ?_⟩
  exact (((Below.refl _ _).alloc (Nat.le_refl _) _).alloc (by simp) _).alloc (by simp; omega) _
set_option maxRecDepth 100000 in
set_option maxHeartbeats 1000000 in
theorem less_any (a b c d : Nat) (ha : a < 9223372036854775808) (hc : c < 9223372036854775808) (hb : b < 18446744073709551616) (hd : d < 18446744073709551616) (hle : c * 18446744073709551616 + d ≤ a * 18446744073709551616 + b) (w : World) :
    Calls Tryd.prog 41 #[.agg #[.int .u64 a, .int .u64 b], .agg #[.int .u64 c, .int .u64 d]] w fun e w' => e = .returned (two (a * 18446744073709551616 + b - (c * 18446744073709551616 + d))) ∧ Below w.heap.size w w' := by
  have h1 := fun w => sub64_int b d 0 (by omega) (by omega) (by omega) w
  rw [Int.sub_zero, Int.add_zero] at h1
  by_cases hlt : (b : Int) < d
  · have h2 := fun w => sub64_int a c 1 (by omega) (by omega) (by omega) w
    have HF := Lib.hid (two_sub1 a b c d ha hc hb hd hle hlt)
    rw [if_pos hlt] at h1
    go_enter Tryd.func41, Tryd.ntmps41
    go_wp2_with fail
    refine bodyPost_ret (v := .agg #[.int .u64 (((a : Int) - c - 1) % 18446744073709551616), .int .u64 (((b : Int) - d) % 18446744073709551616)]) (by simp [results, Tryd.results41, go_sem]) rfl ⟨HF.out, ?_⟩
    exact (((Below.refl _ _).alloc (Nat.le_refl _) _).alloc (by simp) _).alloc (by simp; omega) _
  · have h2 := fun w => sub64_int a c 0 (by omega) (by omega) (by omega) w
    rw [Int.sub_zero] at h2
    have HF := Lib.hid (two_sub0 a b c d ha hc hb hd hle (by omega))
    rw [if_neg hlt] at h1
    go_enter Tryd.func41, Tryd.ntmps41
    go_wp2_with fail
    refine bodyPost_ret (v := .agg #[.int .u64 (((a : Int) - c) % 18446744073709551616), .int .u64 (((b : Int) - d) % 18446744073709551616)]) (by simp [results, Tryd.results41, go_sem]) rfl ⟨HF.out, ?_⟩
    exact (((Below.refl _ _).alloc (Nat.le_refl _) _).alloc (by simp) _).alloc (by simp; omega) _
end Go.Proofs.YtgljbhbpjobnbaaDoor
