/- The walk through a set's has (address). -/
import Derived.Test.YtcocjmbhbddgiaaGreatDoorAd
import Derived.Laws.Bits64b
set_option linter.unusedSimpArgs false
set_option linter.unusedVariables false
namespace Go.Proofs.YtcocjmbhbddgiaaGreatDoor
open Go.RowKit
/-- Is a byte's bit set in four words? -/
def hasW (x0 x1 x2 x3 : Nat) (c : Nat) : Bool :=
  (match c / 64 with | 0 => x0 | 1 => x1 | 2 => x2 | _ => x3).testBit (c % 64)
theorem bit_law (x n : Nat) (h : x < 18446744073709551616) : (bits BinOp.and IntKind.u64 ((x : Int) / 2 ^ n) 1 == 1) = x.testBit n := by
  have e : ((x : Int) / 2 ^ n) = ((x / 2 ^ n : Nat) : Int) := by simp
  have hb : x / 2 ^ n < 18446744073709551616 := Nat.lt_of_le_of_lt (Nat.div_le_self _ _) h
  rw [e, show (1 : Int) = ((1 : Nat) : Int) from rfl, bits_and_u64_nat _ _ hb (by decide), Nat.testBit, Nat.shiftRight_eq_div_pow, Nat.and_one_is_mod, Nat.one_and_eq_mod_two]
  have : x / 2 ^ n % 2 < 2 := Nat.mod_lt _ (by decide)
  generalize x / 2 ^ n % 2 = k at *
  rcases (by omega : k = 0 ∨ k = 1) with rfl | rfl <;> rfl
set_option maxRecDepth 100000 in
theorem has_any (x0 x1 x2 x3 : Nat) (h0 : x0 < 18446744073709551616) (h1 : x1 < 18446744073709551616) (h2 : x2 < 18446744073709551616) (h3 : x3 < 18446744073709551616) (c : Nat) (hc : c < 256) (w : World) :
    Calls Tryz.prog 32 #[.agg #[.int .u64 x0, .int .u64 x1, .int .u64 x2, .int .u64 x3], .int .u8 c] w fun e w' => e = .returned (.bool (hasW x0 x1 x2 x3 c)) ∧ Below w.heap.size w w' := by
  have hq : c / 64 = 0 ∨ c / 64 = 1 ∨ c / 64 = 2 ∨ c / 64 = 3 := by omega
  rcases hq with hq | hq | hq | hq
  all_goals
    go_enter Tryz.func32, Tryz.ntmps32
    go_wp2_with fail
    go_ret
    refine ⟨?_, ?_⟩
    · refine ret1 ?_
      unfold hasW
      rw [hq]
      exact bit_law _ _ (by assumption)
    · go_grown
end Go.Proofs.YtcocjmbhbddgiaaGreatDoor
