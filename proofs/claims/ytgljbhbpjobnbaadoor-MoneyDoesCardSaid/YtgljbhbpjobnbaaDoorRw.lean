/- The walk through the reference's Write (provostref02). -/
import Derived.Test.YtgljbhbpjobnbaaDoorRows
import Derived.Test.YtgljbhbpjobnbaaDoorRq
import Derived.WalkKit
import Derived.WalkSpells
import Derived.Handy
import Derived.Lib.Hide
import Derived.Deep.Light
import Derived.Lib.ItoaLen
set_option linter.unusedSimpArgs false
set_option linter.unusedVariables false
namespace Go.Proofs.YtgljbhbpjobnbaaDoor
open Go.RowKit
set_option maxHeartbeats 400000 in
theorem rwrite_step (m : Nat) (ih : ∀ n : Int, n.natAbs < m → R n → ∀ w, Calls Tryd.prog 38 #[.int .i64 n] w fun e w' => e = .returned (.string ⟨(Lib.itoa n).toArray⟩) ∧ w = w')
    (ih1 : ∀ n : Int, 0 ≤ n → n < 10 → ∀ w, Calls Tryd.prog 38 #[.int .i64 n] w fun e w' => e = .returned (.string ⟨(Lib.itoa n).toArray⟩) ∧ w = w')
    (n : Int) (hm : n.natAbs = m) (hr : R n) (hn : n < 0 ∨ 10 ≤ n) (w : World) :
    Calls Tryd.prog 38 #[.int .i64 n] w fun e w' => e = .returned (.string ⟨(Lib.itoa n).toArray⟩) ∧ w = w' := by
  obtain ⟨r1, r2⟩ := hr
  have IH := Lib.hid ih
  have IH1 := Lib.hid ih1
  clear ih ih1
  rcases hn with h0 | h1
  · by_cases h1 : -10 < n
    · have HF := Lib.hid (itoa_minus n h0)
      have l1 := len_itoa (n := -n) (by unfold R; omega)
      have HC := Lib.hid (fun w => IH1.out (-n) (by omega) (by omega) w)
      clear hm
      go_enter Tryd.func38, Tryd.ntmps38
      go_wp2_with fail
      refine (HC.out _).mono ?_; rintro e w1 ⟨rfl, rfl⟩
      go_wp2_with fail
      go_ret
      refine ⟨retB ?_, rfl⟩
      rw [HF.out]
      exact cat [45] _
    · have HC := Lib.hid (fun w => IH.out (n.tdiv 10) (by rw [tdiv10 n h0]; omega) (by rw [tdiv10 n h0]; unfold R; omega) w)
      have e1 := tdiv10 n h0
      have e2 := tmod10 n h0
      have HF := Lib.hid (itoa_neg10 n ((-n) % 10) (by omega) rfl)
      have HD := Lib.hid (fun w => IH1.out ((-n) % 10) (by omega) (by omega) w)
      have b0 : (0 : Int) ≤ (-n) % 10 := by omega
      have b1 : (-n) % 10 < 10 := by omega
      have b2 : (0 : Int) ≤ (-n) / 10 := by omega
      have b3 : (-n) / 10 ≤ 922337203685477580 := by omega
      rw [e1] at HC
      clear hm
      have h1' : n ≤ -10 := by omega
      clear h1
      generalize hq : (-n) / 10 = q at *
      generalize hd : (-n) % 10 = d at *
      clear hq hd
      have l1 := len_itoa (n := -q) (by unfold R; omega)
      have l2 := len_itoa (n := d) (by unfold R; omega)
      have hd0 : d = 0 ∨ 0 < d := by omega
      rcases hd0 with rfl | hd0
      all_goals
        go_enter Tryd.func38, Tryd.ntmps38
        go_wp2_with fail
        refine (HC.out _).mono ?_; rintro e w1 ⟨rfl, rfl⟩
        go_wp2_with fail
        refine (HD.out _).mono ?_; rintro e w1 ⟨rfl, rfl⟩
        go_wp2_with fail
        go_ret
        refine ⟨retB ?_, rfl⟩
        rw [HF.out]
        exact cat _ _
  · have HF := Lib.hid (itoa_pos n (by omega))
    have HC := Lib.hid (fun w => IH.out (n / 10) (by omega) (by unfold R; omega) w)
    have HD := Lib.hid (fun w => IH1.out (n % 10) (by omega) (by omega) w)
    have l1 := len_itoa (n := n / 10) (by unfold R; omega)
    have l2 := len_itoa (n := n % 10) (by unfold R; omega)
    clear hm
    go_enter Tryd.func38, Tryd.ntmps38
    go_wp2_with fail
    refine (HC.out _).mono ?_; rintro e w1 ⟨rfl, rfl⟩
    go_wp2_with fail
    refine (HD.out _).mono ?_; rintro e w1 ⟨rfl, rfl⟩
    go_wp2_with fail
    go_ret
    refine ⟨retB ?_, rfl⟩
    rw [HF.out]
    exact cat _ _
set_option maxHeartbeats 400000 in
theorem rwrite_small (n : Int) (h0 : 0 ≤ n) (h1 : n < 10) (w : World) :
    Calls Tryd.prog 38 #[.int .i64 n] w fun e w' => e = .returned (.string ⟨(Lib.itoa n).toArray⟩) ∧ w = w' := by
  have HF := Lib.hid (one_digit n h0 h1)
  go_enter Tryd.func38, Tryd.ntmps38
  go_wp2_with fail
  go_ret
  exact ⟨retB HF.out, rfl⟩
theorem rwrite_any (n : Int) (hr : R n) (w : World) :
    Calls Tryd.prog 38 #[.int .i64 n] w fun e w' => e = .returned (.string ⟨(Lib.itoa n).toArray⟩) ∧ w = w' := by
  suffices H : ∀ m : Nat, ∀ n : Int, n.natAbs ≤ m → R n → ∀ w, Calls Tryd.prog 38 #[.int .i64 n] w fun e w' => e = .returned (.string ⟨(Lib.itoa n).toArray⟩) ∧ w = w' from H _ n (Nat.le_refl _) hr w
  intro m
  induction m with
  | zero => intro n hn _ w; exact rwrite_small n (by omega) (by omega) w
  | succ m ih =>
    intro n hn hr w
    by_cases h : 0 ≤ n ∧ n < 10
    · exact rwrite_small n h.1 h.2 w
    · exact rwrite_step n.natAbs (fun k hk hkr w => ih k (by omega) hkr w) (fun n h0 h1 w => rwrite_small n h0 h1 w) n rfl hr (by omega) w
end Go.Proofs.YtgljbhbpjobnbaaDoor
