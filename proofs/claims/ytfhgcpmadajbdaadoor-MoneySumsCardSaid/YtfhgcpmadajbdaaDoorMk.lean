/- The walks through the laws' small tests (provostlaw14: reads, none, alive). -/
import Derived.Test.YtfhgcpmadajbdaaDoorMj
import Derived.Laws.StructEq
set_option linter.unusedSimpArgs false
set_option linter.unusedVariables false
namespace Go.Proofs.YtfhgcpmadajbdaaDoor
open Go.RowKit
set_option maxHeartbeats 400000 in
theorem reads_true (s : ByteArray) (n k : Int) (hs : s.size ≤ 1000000) (hn : pM s.data.toList = n) (hk : pS s.data.toList = k) (h0 : pE s.data.toList = 0) (w : World) (he : Env w) :
    Calls Tryd.prog 46 #[.string s, .int .i64 n, .int .i64 k] w fun e w' => e = .returned (.bool true) ∧ Below w.heap.size w w' := by
  have H := Lib.hid (fun w he => mparse_any s hs w he)
  rw [hn, hk, h0] at H
  clear hs hn hk h0
  go_enter Tryd.func46, Tryd.ntmps46
  go_wp2_with fail
  refine (H.out _ he).mono ?_; rintro e w1 ⟨rfl, hb1⟩
  go_wp2_with fail
  go_ret
  refine ⟨rfl, ?_⟩
  go_grown
  exact hb1.size
set_option maxHeartbeats 400000 in
theorem none_true (s : ByteArray) (hs : s.size ≤ 1000000) (h0 : pE s.data.toList = 140) (w : World) (he : Env w) :
    Calls Tryd.prog 47 #[.string s] w fun e w' => e = .returned (.bool true) ∧ Below w.heap.size w w' := by
  have H := Lib.hid (fun w he => mparse_any s hs w he)
  have hb : parseOk s.data.toList = false := by
    cases q : parseOk s.data.toList with
    | false => rfl
    | true => have := (p_fine _ q).2.2; rw [this] at h0; cases h0
  obtain ⟨e1, e2, e3⟩ := p_bad _ hb
  rw [e1, e2, e3] at H
  clear hs h0 hb e1 e2 e3
  go_enter Tryd.func47, Tryd.ntmps47
  go_wp2_with fail
  refine (H.out _ he).mono ?_; rintro e w1 ⟨rfl, hb1⟩
  go_wp2_with fail
  go_ret
  refine ⟨rfl, ?_⟩
  go_grown
  exact hb1.size
set_option maxHeartbeats 400000 in
theorem alive_true (w : World) (he : Env w) :
    Calls Tryd.prog 21 #[] w fun e w' => e = .returned (.bool true) ∧ Below w.heap.size w w' := by
  have H1 := Lib.hid (fun w he => reads_true ⟨#[49, 50, 46, 53, 48]⟩ 125 1 (by decide) (by decide +kernel) (by decide +kernel) (by decide +kernel) w he)
  have H2 := Lib.hid (fun w he => reads_true ⟨#[45, 48, 46, 48, 48, 48]⟩ 0 0 (by decide) (by decide +kernel) (by decide +kernel) (by decide +kernel) w he)
  have H3 := Lib.hid (fun w he => none_true ⟨#[48, 48, 55]⟩ (by decide) (by decide +kernel) w he)
  have H4 := Lib.hid (fun w he => none_true ⟨#[49, 46]⟩ (by decide) (by decide +kernel) w he)
  go_enter Tryd.func21, Tryd.ntmps21
  go_wp2_with fail
  refine (H1.out _ he).mono ?_; rintro e w1 ⟨rfl, hb1⟩
  have he1 := he.stays hb1
  go_wp2_with fail
  refine (H2.out _ he1).mono ?_; rintro e w2 ⟨rfl, hb2⟩
  have he2 := he1.stays hb2
  go_wp2_with fail
  refine (H3.out _ he2).mono ?_; rintro e w3 ⟨rfl, hb3⟩
  have he3 := he2.stays hb3
  go_wp2_with fail
  refine (H4.out _ he3).mono ?_; rintro e w4 ⟨rfl, hb4⟩
  go_wp2_with fail
  go_ret
  have q2 := hb1.trans (hb2.mono hb1.size)
  have q3 := q2.trans (hb3.mono q2.size)
  exact ⟨rfl, q3.trans (hb4.mono q3.size)⟩
end Go.Proofs.YtfhgcpmadajbdaaDoor
