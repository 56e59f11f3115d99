/- lex.Check at every token. -/
import Derived.Test.YtcplgiimhedloaaDoorLc
set_option linter.unusedSimpArgs false
set_option linter.unusedVariables false
namespace Go.Proofs.YtcplgiimhedloaaDoor
open Go.RowKit
theorem bytes_ext' {a : ByteArray} {l : List UInt8} (h : a.data.toList = l) : a = ⟨l.toArray⟩ := by
  obtain ⟨d⟩ := a
  have : d = l.toArray := by apply Array.ext'; simpa using h
  rw [this]
theorem below_same {f : Nat} {args : Array Value} {v : Value} (H : ∀ w, Calls Tryd.prog f args w fun e w' => e = .returned v ∧ w = w') : ∀ w, Calls Tryd.prog f args w fun e w' => e = .returned v ∧ Below w.heap.size w w' :=
  fun w => (H w).mono fun e w' ⟨h1, h2⟩ => ⟨h1, by rw [← h2]; exact Below.refl _ _⟩
theorem lcheck_any (k : UInt8) (x : ByteArray) (p : Int) (hx : x.size ≤ 1000000) (w : World) (hE : EnvU w) :
    Calls Tryd.prog 7 #[.agg #[.int .u8 (k.toNat : Int), .string x, .int .i64 p]] w fun e w' => e = .returned (.int .i64 (if okT ⟨k, x.data.toList, p⟩ then 0 else 8)) ∧ Below w.heap.size w w' := by
  unfold okT
  dsimp only
  by_cases k0 : k = 0
  · subst k0
    rw [if_pos rfl]
    rcases empty_z x with ⟨a0, a1, a2, a3⟩ | ⟨a0, a1, a2, a3⟩
    · have : x.data.toList.isEmpty = false := by cases h : x.data.toList with
        | nil => exact absurd h a3
        | cons _ _ => rfl
      rw [this]
      exact lcheck_end_n x p a1 a2 w
    · rw [a3]
      exact lcheck_end_y x p a1 a2 w
  rw [if_neg k0]
  by_cases k1 : k = 1
  · subst k1
    rw [if_pos rfl]
    exact lcheck_name x _ p (Lib.hid (below_same fun w => lname_any x hx w)) w
  rw [if_neg k1]
  by_cases k2 : k = 2
  · subst k2
    rw [if_pos rfl]
    exact lcheck_int x _ p (Lib.hid (below_same fun w => lnumber_any x hx w)) w
  rw [if_neg k2]
  by_cases k3 : k = 3
  · subst k3
    rw [if_pos rfl]
    have ht : (if textB x.data.toList then (0 : Int) else 8) = if chkE x.data.toList = 0 then 0 else 8 := by
      unfold textB chkE
      by_cases q : 16384 < x.data.toList.length
      · rw [if_pos q, decide_eq_false (by omega)]; rfl
      · rw [if_neg q, decide_eq_true (by omega), Bool.true_and]
        cases Lib.validD x.data.toList <;> rfl
    have ht2 : (Value.int .i64 (if textB x.data.toList then (0 : Int) else 8)) = .int .i64 (if chkE x.data.toList = 0 then 0 else 8) := by rw [ht]
    rw [show (Ending.returned (Value.int .i64 (if textB x.data.toList = true then 0 else 8))) = Ending.returned (Value.int .i64 (if chkE x.data.toList = 0 then 0 else 8)) from by rw [ht]]
    refine lcheck_text x _ p w (Lib.hid fun V hb => tcheck_any x hx V (hE.below hb)) ?_
    unfold chkE
    by_cases q : 16384 < x.data.toList.length
    · rw [if_pos q]; right; left; rfl
    · rw [if_neg q]
      cases Lib.validD x.data.toList
      · right; right; rfl
      · left; rfl
  rw [if_neg k3]
  by_cases k4 : k = 4
  · subst k4
    rw [if_pos rfl]
    have hd : (x.toList == [46, 46, 46]) = (x.data.toList == [46, 46, 46]) := by rw [ByteArray.toList_eq]
    have hl := len_z x
    unfold markB
    cases hq : (x.data.toList == [46, 46, 46]) with
    | true => exact lcheck_dots x p (hd.trans hq) w
    | false =>
      match hm : x.data.toList with
      | [] =>
        rw [hm] at hl
        exact lcheck_long x p (hd.trans hq) (by rw [beq_eq_false_iff_ne]; simp at hl; omega) w
      | [c] =>
        rw [hm] at hl
        have hc := bytes_ext' hm
        refine lcheck_mark x _ p (hd.trans hq) (by rw [beq_iff_eq]; simp at hl; omega) (Lib.hid (below_same fun w => ?_)) w
        have := ix_contains ⟨#[33, 36, 38, 40, 41, 58, 61, 64, 91, 93, 123, 124, 125]⟩ c w
        rw [hc]
        exact this
      | _ :: _ :: _ =>
        rw [hm] at hl
        exact lcheck_long x p (hd.trans hq) (by rw [beq_eq_false_iff_ne]; simp at hl; omega) w
  rw [if_neg k4]
  have ne : ∀ n : Nat, n < 256 → k ≠ UInt8.ofNat n → ((k.toNat : Int) == (n : Int)) = false := by
    intro n hn h
    rw [beq_eq_false_iff_ne]
    intro e
    exact h (UInt8.toNat_inj.1 (by rw [UInt8.toNat_ofNat']; omega))
  exact lcheck_other x _ p (ne 0 (by omega) k0) (ne 1 (by omega) k1) (ne 2 (by omega) k2) (ne 3 (by omega) k3) (ne 4 (by omega) k4) w
end Go.Proofs.YtcplgiimhedloaaDoor
