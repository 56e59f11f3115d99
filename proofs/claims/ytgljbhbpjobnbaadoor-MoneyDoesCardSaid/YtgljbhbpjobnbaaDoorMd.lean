/- The walk through a division of two words by 10 (math/bits.Div64, money: tenth). -/
import Derived.Test.YtgljbhbpjobnbaaDoorMc
import Derived.Outline
import Derived.Laws.BitsLemmas
set_option linter.unusedSimpArgs false
set_option linter.unusedVariables false
namespace Go.Proofs.YtgljbhbpjobnbaaDoor
open Go.RowKit
theorem wraps_u64 (n : Int) (h₀ : 0 ≤ n) (h₁ : n < 2 ^ 64) : IntKind.u64.wrap n = n := by rw [IntKind.wrap_u64]; omega
theorem ret_i2 {a b c d : Int} (h : a = c) (h' : b = d) : Ending.returned (.tuple #[.int .u64 a, .int .u64 b]) = .returned (.tuple #[.int .u64 c, .int .u64 d]) := by rw [h, h']
theorem below_drawN {B : Nat} {w w1 : World} (n : Nat) (h : Below B w w1) : Below B w (w1.drewN n) := h.trans (below_drewN' _ _ _)
/-- The world but for draws. -/
def Drawn (w w' : World) : Prop := ∃ n, w' = w.drewN n
theorem Drawn.below {B : Nat} {w w' : World} (h : Drawn w w') : Below B w w' := by obtain ⟨n, rfl⟩ := h; exact below_drewN' _ _ _
theorem div10_z (l : Int) (hl : 0 ≤ l) (hl2 : l ≤ 18446744073709551615) (w : World) :
    Calls Tryd.prog 50 #[.int .u64 0, .int .u64 l, .int .u64 10] w fun e w' => e = .returned (.tuple #[.int .u64 (l / 10), .int .u64 (l % 10)]) ∧ Drawn w w' := by
  go_enter Tryd.func50, Tryd.ntmps50
  go_wp2_with fail
  go_quiet (fail)
  go_wp2_with fail
  go_ret2
  exact ⟨rfl, _, rfl⟩
theorem knuth_q (n k r l : Int) (hn : n = r * 1152921504606846976 + l / 16) (hk : k = (l % 16) * 1152921504606846976) (hr : 1 ≤ r) (hr9 : r ≤ 9) (hl : 0 ≤ l) (hl2 : l ≤ 18446744073709551615) :
    n / 2684354560 * 4294967296 + ((n - n / 2684354560 * 2684354560) * 4294967296 + k / 4294967296) / 2684354560 = (r * 18446744073709551616 + l) / 10 := by
  subst hn; subst hk
  omega
set_option maxRecDepth 100000 in
set_option maxHeartbeats 1000000 in
theorem div10_p (r l : Int) (hr : 1 ≤ r) (hr9 : r ≤ 9) (hl : 0 ≤ l) (hl2 : l ≤ 18446744073709551615) (w : World)
   (h : ∀ w, Calls Tryd.prog 60 #[.int .u64 10] w fun e w' => e = .returned (.int .i64 60) ∧ w = w') :
    Calls Tryd.prog 50 #[.int .u64 r, .int .u64 l, .int .u64 10] w fun e w' => e = .returned (.tuple #[.int .u64 ((r * 18446744073709551616 + l) / 10), .int .u64 ((r * 18446744073709551616 + l) % 10)]) ∧ w = w' := by
  have H := Lib.hid h
  clear h
  have hor : bits BinOp.or IntKind.u64 (r * 1152921504606846976) (l / 16) = r * 1152921504606846976 + l / 16 :=
    bits_join .u64 64 (by decide) wraps_u64 60 _ _ (by omega) (by omega) (by omega) (by omega) (by omega) (by omega)
  obtain ⟨n, hn⟩ : ∃ n : Int, r * 1152921504606846976 + l / 16 = n := ⟨_, rfl⟩
  have n0 : 0 ≤ n := by omega
  have n1 : n ≤ 11529215046068469759 := by omega
  have hsh : IntKind.u64.wrap (l * 1152921504606846976) = (l % 16) * 1152921504606846976 := by rw [IntKind.wrap_u64]; omega
  obtain ⟨k, hk⟩ : ∃ k : Int, (l % 16) * 1152921504606846976 = k := ⟨_, rfl⟩
  have hz : bits BinOp.and IntKind.u64 11529215046068469760 4294967295 = 0 := by decide +kernel
  have k0 : 0 ≤ k := by omega
  have k1 : k ≤ 17293822569102704640 := by omega
  have hm : bits BinOp.and IntKind.u64 k 4294967295 = 0 := by
    have := bits_mask .u64 64 (by decide) wraps_u64 32 (by decide) k k0 (by omega)
    rw [show ((2 : Int) ^ 32 - 1) = 4294967295 by decide] at this
    rw [this]; omega
  have HN := Lib.hid hn.symm
  have HK := Lib.hid hk.symm
  rw [hn] at hor
  rw [hk] at hsh
  have hq : n / 2684354560 ≤ 4294967295 := by omega
  clear hn hk
  have hU : IntKind.u64.wrap (IntKind.u64.wrap (IntKind.u64.wrap (n * 4294967296) + k / 4294967296) - IntKind.u64.wrap (n / 2684354560 * 11529215046068469760)) = (n - n / 2684354560 * 2684354560) * 4294967296 + k / 4294967296 := by
    simp only [IntKind.wrap_u64]; omega
  obtain ⟨u, hu⟩ : ∃ u : Int, (n - n / 2684354560 * 2684354560) * 4294967296 + k / 4294967296 = u := ⟨_, rfl⟩
  have u0 : 0 ≤ u := by omega
  have u1 : u ≤ 11529215046068469759 := by omega
  have HU := Lib.hid hu.symm
  rw [hu] at hU
  have hq0 : u / 2684354560 ≤ 4294967295 := by omega
  clear hu
  go_enter Tryd.func50, Tryd.ntmps50
  go_wp2_with fail
  refine (H.out _).mono ?_; rintro e w1 ⟨rfl, rfl⟩
  go_wp2_with fail
  refine wp_loop_rounds 1 ?_
  rw [rounds_succ]
  go_wp2_with fail
  refine wp_loop_rounds 1 ?_
  rw [rounds_succ]
  go_wp2_with fail
  go_ret2
  refine ⟨ret_i2 ?_ ?_, rfl⟩
  · have h1 := HN.out
    have h2 := HK.out
    have h3 := HU.out
    go_light
    (try simp only [IntKind.wrap_u64])
    subst h3; subst h1; subst h2
    omega
  · have h1 := HN.out
    have h2 := HK.out
    have h3 := HU.out
    go_light
    (try simp only [IntKind.wrap_u64])
    subst h3; subst h1; subst h2
    omega
theorem lz_10 (w : World) : Calls Tryd.prog 60 #[.int .u64 10] w fun e w' => e = .returned (.int .i64 60) ∧ w = w' := by
  have e : ((Lib.bitLen (Int.toNat 10) : Nat) : Int) = 4 := by decide +kernel
  have H := Lib.hid (fun (w : World) => Tryd.bits_Len64 10 w (by omega) (by omega))
  rw [e] at H
  clear e
  go_enter Tryd.func60, Tryd.ntmps60
  go_wp2_with fail
  refine (H.out _).mono ?_; rintro e w1 ⟨rfl, rfl⟩
  go_wp2_with fail
  go_ret
  exact ⟨rfl, rfl⟩
theorem div10_any (r l : Int) (hr : 0 ≤ r) (hr9 : r ≤ 9) (hl : 0 ≤ l) (hl2 : l ≤ 18446744073709551615) (w : World) :
    Calls Tryd.prog 50 #[.int .u64 r, .int .u64 l, .int .u64 10] w fun e w' => e = .returned (.tuple #[.int .u64 ((r * 18446744073709551616 + l) / 10), .int .u64 ((r * 18446744073709551616 + l) % 10)]) ∧ Drawn w w' := by
  by_cases h : r = 0
  · subst h
    refine (div10_z l hl hl2 w).mono ?_
    rintro e w1 ⟨rfl, hb⟩
    exact ⟨ret_i2 (by omega) (by omega), hb⟩
  · refine (div10_p r l (by omega) hr9 hl hl2 w lz_10).mono ?_
    rintro e w1 ⟨rfl, rfl⟩
    exact ⟨rfl, 0, rfl⟩
theorem tenth_eq (h l : Nat) (hh : h < 18446744073709551616) (hl : l < 18446744073709551616) :
    Ending.returned (.tuple #[.agg #[.int .u64 ((h : Int) / 10), .int .u64 (((h : Int) % 10 * 18446744073709551616 + l) / 10)], .int .u64 (((h : Int) % 10 * 18446744073709551616 + l) % 10)]) =
      .returned (.tuple #[two ((h * 18446744073709551616 + l) / 10), .int .u64 (((h * 18446744073709551616 + l) % 10 : Nat) : Int)]) := by
  unfold two
  rw [show ((h : Int) / 10) = (((h * 18446744073709551616 + l) / 10 / 18446744073709551616 : Nat) : Int) by omega,
    show (((h : Int) % 10 * 18446744073709551616 + l) / 10) = (((h * 18446744073709551616 + l) / 10 % 18446744073709551616 : Nat) : Int) by omega,
    show (((h : Int) % 10 * 18446744073709551616 + l) % 10) = (((h * 18446744073709551616 + l) % 10 : Nat) : Int) by omega]
set_option maxRecDepth 100000 in
set_option maxHeartbeats 1000000 in
theorem tenth_any (h l : Nat) (hh : h < 18446744073709551616) (hl : l < 18446744073709551616) (w : World) :
    Calls Tryd.prog 39 #[.agg #[.int .u64 h, .int .u64 l]] w fun e w' => e = .returned (.tuple #[two ((h * 18446744073709551616 + l) / 10), .int .u64 (((h * 18446744073709551616 + l) % 10 : Nat) : Int)]) ∧ Below w.heap.size w w' := by
  have H := Lib.hid (fun w => div10_any ((h : Int) % 10) l (by omega) (by omega) (by omega) (by omega) w)
  go_enter Tryd.func39, Tryd.ntmps39
  go_wp2_with fail
  go_quiet (fail)
  go_wp2_with fail
  refine (H.out _).mono ?_; rintro e w1 ⟨rfl, nr, rfl⟩
  go_wp2_with fail
  refine bodyPost_ret (v := .tuple #[.agg #[.int .u64 ((h : Int) / 10), .int .u64 (((h : Int) % 10 * 18446744073709551616 + l) / 10)], .int .u64 (((h : Int) % 10 * 18446744073709551616 + l) % 10)]) (by simp [results, Tryd.results39, go_sem]) rfl ⟨tenth_eq h l hh hl, ?_⟩
  go_grown
  refine below_drawN _ ?_
  go_grown
end Go.Proofs.YtgljbhbpjobnbaaDoor
