/- The walk through strconv.ParseUint at two digits to the base of 16. -/
import Derived.Test.YtcocjmbhbddgiaaGreatDoorAm
import Derived.Deep.Light
set_option linter.unusedSimpArgs false
set_option linter.unusedVariables false
namespace Go.Proofs.YtcocjmbhbddgiaaGreatDoor
open Go.RowKit
theorem ret_u {a c : Int} (h : a = c) : Ending.returned (.tuple #[.int .u64 a, .nilIface]) = .returned (.tuple #[.int .u64 c, .nilIface]) := by rw [h]
def lowI (c : UInt8) : Int := bits BinOp.or IntKind.u8 (c.toNat : Int) 32
theorem low_any (c : UInt8) (w : World) :
    Calls Tryz.prog 92 #[.int .u8 (c.toNat : Int)] w fun e w' => e = .returned (.int .u8 (lowI c)) ∧ w = w' := by
  go_enter Tryz.func92, Tryz.ntmps92
  go_wp2_with fail
  go_ret
  exact ⟨rfl, rfl⟩
theorem low_hex (c : UInt8) (h : isHex c = true) : (48 ≤ (c.toNat : Int) ∧ (c.toNat : Int) ≤ 57 ∧ hexI c.toNat = (c.toNat : Int) - 48) ∨ (57 < (c.toNat : Int) ∧ (c.toNat : Int) ≤ 255 ∧ ¬ (c.toNat : Int) = 95 ∧ 97 ≤ lowI c ∧ lowI c ≤ 102 ∧ hexI c.toNat = lowI c - 87) := by
  have g : (!isHex c || (decide (48 ≤ (c.toNat : Int)) && decide ((c.toNat : Int) ≤ 57) && decide (hexI c.toNat = (c.toNat : Int) - 48)) || (decide (57 < (c.toNat : Int)) && decide ((c.toNat : Int) ≤ 255) && decide (¬ (c.toNat : Int) = 95) && decide (97 ≤ lowI c) && decide (lowI c ≤ 102) && decide (hexI c.toNat = lowI c - 87))) = true := by
    refine all_bytes (f := fun c => (!isHex c || (decide (48 ≤ (c.toNat : Int)) && decide ((c.toNat : Int) ≤ 57) && decide (hexI c.toNat = (c.toNat : Int) - 48)) || (decide (57 < (c.toNat : Int)) && decide ((c.toNat : Int) ≤ 255) && decide (¬ (c.toNat : Int) = 95) && decide (97 ≤ lowI c) && decide (lowI c ≤ 102) && decide (hexI c.toNat = lowI c - 87)))) (g := fun _ => true) ?_ c
    decide +kernel
  rw [h] at g
  simp only [Bool.not_true, Bool.false_or, Bool.or_eq_true, Bool.and_eq_true, decide_eq_true_eq] at g
  rcases g with ⟨⟨a, b⟩, c⟩ | ⟨⟨⟨⟨⟨a, b⟩, f⟩, c⟩, d⟩, e⟩
  · exact Or.inl ⟨a, b, c⟩
  · exact Or.inr ⟨a, b, f, c, d, e⟩
set_option maxRecDepth 100000 in
set_option maxHeartbeats 2000000 in
theorem parse2_any (a b : UInt8) (ha : isHex a = true) (hb : isHex b = true) (s : ByteArray) (hs : s = ⟨#[a, b]⟩) (w : World) :
    Calls Tryz.prog 82 #[.string s, .int .i64 16, .int .i64 8] w fun e w' => e = .returned (.tuple #[.int .u64 (16 * hexI a.toNat + hexI b.toNat), .nilIface]) ∧ Below w.heap.size w w' := by
  have g1 := low_hex a ha
  have g2 := low_hex b hb
  have H1 := Lib.hid (fun w => low_any a w)
  have H2 := Lib.hid (fun w => low_any b w)
  have hsz : s.size = 2 := by rw [hs]; rfl
  have hne : s.toList.isEmpty = false := by rw [hs, ByteArray.toList_eq]; rfl
  have hne2 : ¬ s.toList = [] := by rw [hs, ByteArray.toList_eq]; simp
  have kc := run_bytes_of_string (P := Tryz.prog) w 9 48 5 s Tryz.underlying9 Tryz.underlying48 Tryz.underlying5
  have hs0 : s[0]'(by omega) = a := by subst hs; rfl
  have hs1 : s[1]'(by omega) = b := by subst hs; rfl
  clear hs
  generalize lowI a = la at *
  generalize lowI b = lb at *
  clear ha hb
  obtain ⟨va, hva⟩ : ∃ v, hexI a.toNat = v := ⟨_, rfl⟩
  obtain ⟨vb, hvb⟩ : ∃ v, hexI b.toNat = v := ⟨_, rfl⟩
  rw [hva] at g1
  rw [hvb] at g2
  rw [hva, hvb]
  clear hva hvb
  have hW : ∃ W : World, W = (w.alloc (Obj.cells (bytesRow s (grownCap w 2 0 5)) 5 ((bytesRow s (grownCap w 2 0 5)).size, (bytesRow s (grownCap w 2 0 5)).size + 1))).drew ∧ W.cell? ⟨w.heap.size, 0, none⟩ = some (.int .u8 a.toNat) ∧ W.cell? ⟨w.heap.size, 1, none⟩ = some (.int .u8 b.toNat) ∧ Below w.heap.size w W := by
    refine ⟨_, rfl, ?_, ?_, ?_⟩
    · change (w.alloc _).cell? _ = _
      rw [World.cell?_alloc_mark, ← hs0]
      exact bytesRow_at s _ 0 (show _ < s.size by rw [hsz]; decide)
    · change (w.alloc _).cell? _ = _
      rw [World.cell?_alloc_mark, ← hs1]
      exact bytesRow_at s _ 1 (show _ < s.size by rw [hsz]; decide)
    · exact ((Below.refl _ _).alloc (Nat.le_refl _) _).drew
  clear hs0 hs1
  go_enter Tryz.func82, Tryz.ntmps82
  go_wp2_with fail
  obtain ⟨W, hWe, k0, k1, hbw⟩ := hW
  rw [← hWe]
  clear hWe kc
  generalize (a.toNat : Int) = na at *
  generalize (b.toNat : Int) = nb at *
  rcases g1 with ⟨a1, a2, a3⟩ | ⟨a1, a2, a6, a3, a4, a5⟩ <;> rcases g2 with ⟨b1, b2, b3⟩ | ⟨b1, b2, b6, b3, b4, b5⟩
  · subst a3 b3
    refine wp_loop_rounds 3 ?_
    rw [rounds_succ]
    go_wp2_with fail
    rw [rounds_succ]
    go_wp2_with fail
    rw [rounds_succ]
    go_wp2_with fail
    go_ret2
    exact ⟨ret_u (by omega), hbw⟩
  · subst a3 b5
    refine wp_loop_rounds 3 ?_
    rw [rounds_succ]
    go_wp2_with fail
    rw [rounds_succ]
    go_wp2_with fail
    refine (H2.out _).mono ?_; rintro e w1 ⟨rfl, rfl⟩
    go_wp2_with fail
    refine (H2.out _).mono ?_; rintro e w1 ⟨rfl, rfl⟩
    go_wp2_with fail
    refine (H2.out _).mono ?_; rintro e w1 ⟨rfl, rfl⟩
    go_wp2_with fail
    rw [rounds_succ]
    go_wp2_with fail
    go_ret2
    exact ⟨ret_u (by omega), hbw⟩
  · subst a5 b3
    refine wp_loop_rounds 3 ?_
    rw [rounds_succ]
    go_wp2_with fail
    refine (H1.out _).mono ?_; rintro e w1 ⟨rfl, rfl⟩
    go_wp2_with fail
    refine (H1.out _).mono ?_; rintro e w1 ⟨rfl, rfl⟩
    go_wp2_with fail
    refine (H1.out _).mono ?_; rintro e w1 ⟨rfl, rfl⟩
    go_wp2_with fail
    rw [rounds_succ]
    go_wp2_with fail
    rw [rounds_succ]
    go_wp2_with fail
    go_ret2
    exact ⟨ret_u (by omega), hbw⟩
  · subst a5 b5
    refine wp_loop_rounds 3 ?_
    rw [rounds_succ]
    go_wp2_with fail
    refine (H1.out _).mono ?_; rintro e w1 ⟨rfl, rfl⟩
    go_wp2_with fail
    refine (H1.out _).mono ?_; rintro e w1 ⟨rfl, rfl⟩
    go_wp2_with fail
    refine (H1.out _).mono ?_; rintro e w1 ⟨rfl, rfl⟩
    go_wp2_with fail
    rw [rounds_succ]
    go_wp2_with fail
    refine (H2.out _).mono ?_; rintro e w1 ⟨rfl, rfl⟩
    go_wp2_with fail
    refine (H2.out _).mono ?_; rintro e w1 ⟨rfl, rfl⟩
    go_wp2_with fail
    refine (H2.out _).mono ?_; rintro e w1 ⟨rfl, rfl⟩
    go_wp2_with fail
    rw [rounds_succ]
    go_wp2_with fail
    go_ret2
    exact ⟨ret_u (by omega), hbw⟩
end Go.Proofs.YtcocjmbhbddgiaaGreatDoor
