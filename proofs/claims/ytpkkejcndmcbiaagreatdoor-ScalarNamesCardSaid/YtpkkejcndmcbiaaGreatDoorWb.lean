import Derived.Test.YtpkkejcndmcbiaaGreatDoorRows
import Derived.Test.YtpkkejcndmcbiaaGreatDoorWp
import Derived.WalkKit
import Derived.WalkSpells
import Derived.Handy
import Derived.Lib.Hide
import Derived.Deep.Light
import Derived.Deep.RegionWith
import Derived.Deep.RegionHeld3
set_option linter.unusedSimpArgs false
set_option linter.unusedVariables false
namespace Go.Proofs.YtpkkejcndmcbiaaGreatDoor
open Go.RowKit
set_option maxHeartbeats 400000 in
theorem limit_any (s n : Int) (h : s = 0 ∨ s = 1) (w : World) :
    Calls Tryz.prog 178 #[.agg #[.int .i64 s, .int .u64 n]] w fun e w' => e = .returned (.int .u64 (9223372036854775807 + s)) ∧ Below w.heap.size w w' := by
  have hi0 : ∀ w, (Instr.index 256 (Value.agg #[Value.int IntKind.u64 9223372036854775807, Value.int IntKind.u64 9223372036854775808]) (Value.int IntKind.i64 0)).run Tryz.prog w = .ok (.int .u64 9223372036854775807) w := fun _ => by kernel_rfl
  have hi1 : ∀ w, (Instr.index 256 (Value.agg #[Value.int IntKind.u64 9223372036854775807, Value.int IntKind.u64 9223372036854775808]) (Value.int IntKind.i64 1)).run Tryz.prog w = .ok (.int .u64 9223372036854775808) w := fun _ => by kernel_rfl
  rcases h with rfl | rfl
  all_goals
    go_enter Tryz.func178, Tryz.ntmps178
    go_wp2
    go_ret
    exact ⟨rfl, (Below.refl _ _).alloc (Nat.le_refl _) _⟩
/-- The cells of a block just made, behind a call that only makes blocks. -/
theorem keep2 {w W w1 : World} {b : Nat} {x y : Value} (h : W.cell? ⟨b, 0, none⟩ = some x ∧ W.cell? ⟨b, 1, none⟩ = some y ∧ b < W.heap.size ∧ Below w.heap.size w W) (hb : Below W.heap.size W w1) (hw : w.heap.size ≤ W.heap.size) :
    w1.cell? ⟨b, 0, none⟩ = some x ∧ w1.cell? ⟨b, 1, none⟩ = some y ∧ b < w1.heap.size ∧ Below w.heap.size w w1 := by
  obtain ⟨h0, h1, h2, h3⟩ := h
  exact ⟨(hb.cell (p := ⟨b, 0, none⟩) h2).trans h0, (hb.cell (p := ⟨b, 1, none⟩) h2).trans h1, Nat.lt_of_lt_of_le h2 hb.size, h3.trans (hb.mono hw)⟩
set_option maxRecDepth 100000 in
set_option maxHeartbeats 1000000 in
theorem number_0 (n : Int) (h0 : 0 ≤ n) (h1 : n ≤ 18446744073709551615) (w : World) :
    Calls Tryz.prog 136 #[.agg #[.int .i64 0, .int .u64 n]] w fun e w' => e = .returned (.tuple #[.int .i64 (val n), .int .i64 (err n)]) ∧ Below w.heap.size w w' := by
  have L := Lib.hid (fun w => limit_any 0 n (by simp) w)
  go_enter Tryz.func136, Tryz.ntmps136
  go_wp2_with fail
  go_region_held3 (fun W => W.cell? ⟨w.heap.size, 0, none⟩ = some (.int .i64 0) ∧ W.cell? ⟨w.heap.size, 1, none⟩ = some (.int .u64 n) ∧ w.heap.size < W.heap.size ∧ Below w.heap.size w W) 
     (first | exact keep2 (by assumption) (by assumption) (by omega) | (refine ⟨by simp [go_sem], by simp [go_sem], by simp, ?_⟩; go_grown; done))
     (first | (refine (L.out _).mono ?_; rintro e w1 ⟨rfl, hb⟩))
  rename_i hS
  obtain ⟨hS0, hS1, hS2, hS3⟩ := hS
  go_wp2
  all_goals
    go_ret2
    refine ⟨ret2 ?_ ?_, hS3⟩
    all_goals
      go_light
      simp only [val, err, wrap64, IntKind.wrap_i64, IntKind.wrap_u64] at *
      (try simp at *) <;> (try split) <;> omega
set_option maxRecDepth 100000 in
set_option maxHeartbeats 1000000 in
theorem number_1 (n : Int) (h0 : 0 ≤ n) (h1 : n ≤ 18446744073709551615) (w : World) :
    Calls Tryz.prog 136 #[.agg #[.int .i64 1, .int .u64 n]] w fun e w' => e = .returned (.tuple #[.int .i64 (val (-n)), .int .i64 (err (-n))]) ∧ Below w.heap.size w w' := by
  have L := Lib.hid (fun w => limit_any 1 n (by simp) w)
  go_enter Tryz.func136, Tryz.ntmps136
  go_wp2_with fail
  go_region_held3 (fun W => W.cell? ⟨w.heap.size, 0, none⟩ = some (.int .i64 1) ∧ W.cell? ⟨w.heap.size, 1, none⟩ = some (.int .u64 n) ∧ w.heap.size < W.heap.size ∧ Below w.heap.size w W) 
     (first | exact keep2 (by assumption) (by assumption) (by omega) | (refine ⟨by simp [go_sem], by simp [go_sem], by simp, ?_⟩; go_grown; done))
     (first | (refine (L.out _).mono ?_; rintro e w1 ⟨rfl, hb⟩))
  rename_i hS
  obtain ⟨hS0, hS1, hS2, hS3⟩ := hS
  go_wp2
  all_goals
    go_ret2
    refine ⟨ret2 ?_ ?_, hS3⟩
    all_goals
      go_light
      simp only [val, err, wrap64, IntKind.wrap_i64, IntKind.wrap_u64] at *
      (try simp at *) <;> (try split) <;> omega
end Go.Proofs.YtpkkejcndmcbiaaGreatDoor
