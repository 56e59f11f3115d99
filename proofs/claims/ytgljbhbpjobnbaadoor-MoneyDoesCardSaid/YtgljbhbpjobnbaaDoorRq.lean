/- Digits and strings, plainly: what the walks through the references and through the program both use. -/
import Derived.Test.YtgljbhbpjobnbaaDoorRp
import Derived.WalkKit
import Derived.WalkSpells
import Derived.Handy
import Derived.Lib.Hide
import Derived.Lib.IndexBytes
import Derived.Lib.ItoaLen
set_option linter.unusedSimpArgs false
set_option linter.unusedVariables false
namespace Go.Proofs.YtgljbhbpjobnbaaDoor
open Go.RowKit
theorem retS {a c : List UInt8} (h : a = c) : Ending.returned (.string ⟨a.toArray⟩) = .returned (.string ⟨c.toArray⟩) := by rw [h]
theorem take_snoc (s : ByteArray) (k : Nat) (h : k < s.size) : s.data.toList.take (k + 1) = s.data.toList.take k ++ [s[k]] := by
  rw [List.take_succ_eq_append_getElem (by simpa using h)]; rfl
theorem all_take_snoc (s : ByteArray) (k : Nat) (h : k < s.size) : (s.data.toList.take (k + 1)).all isDig = ((s.data.toList.take k).all isDig && isDig s[k]) := by
  rw [take_snoc s k h]; simp
theorem all_of_take (l : List UInt8) (k : Nat) (h : (l.take k).all isDig = false) : l.all isDig = false := by
  cases hl : l.all isDig with
  | false => rfl
  | true =>
    rw [List.all_eq_true] at hl
    have : (l.take k).all isDig = true := List.all_eq_true.2 fun x hx => hl x (List.mem_of_mem_take hx)
    rw [this] at h; cases h
theorem dig_of (c : UInt8) : isDig c = true ↔ 48 ≤ (c.toNat : Int) ∧ (c.toNat : Int) ≤ 57 := by
  unfold isDig; rw [decide_eq_true_eq]; omega
theorem dig_not {c : UInt8} (h : ¬ isDig c = true) : (c.toNat : Int) < 48 ∨ 57 < (c.toNat : Int) := by
  rw [dig_of] at h; omega
theorem itoa_small (n : Int) (h0 : 0 ≤ n) (h1 : n < 10) : Lib.itoa n = [UInt8.ofNat (48 + n.toNat)] := by
  obtain ⟨u, rfl⟩ := Int.eq_ofNat_of_zero_le h0
  rw [Lib.itoa_nonneg, Lib.decDigits_one (by omega)]; rfl
theorem itoa_minus (n : Int) (h : n < 0) : Lib.itoa n = 45 :: Lib.itoa (-n) := by
  obtain ⟨u, hu⟩ := Int.eq_ofNat_of_zero_le (show 0 ≤ -n by omega)
  rw [hu, Lib.itoa_nonneg, show n = -(u : Int) by omega, Lib.itoa_neg _ (by omega)]
theorem itoa_pos (n : Int) (h : 10 ≤ n) : Lib.itoa n = Lib.itoa (n / 10) ++ Lib.itoa (n % 10) := by
  obtain ⟨u, rfl⟩ := Int.eq_ofNat_of_zero_le (show 0 ≤ n by omega)
  rw [show (u : Int) / 10 = ((u / 10 : Nat) : Int) by omega, show (u : Int) % 10 = ((u % 10 : Nat) : Int) by omega, Lib.itoa_nonneg, Lib.itoa_nonneg, Lib.itoa_nonneg, Lib.decDigits, dif_neg (by omega), Lib.decDigits_one (Nat.mod_lt _ (by decide))]
theorem itoa_neg10 (n d : Int) (h : n ≤ -10) (hd : d = (-n) % 10) : Lib.itoa n = Lib.itoa (-((-n) / 10)) ++ Lib.itoa d := by
  rw [itoa_minus n (by omega), itoa_minus (-((-n) / 10)) (by omega), hd, Int.neg_neg, List.cons_append, ← itoa_pos (-n) (by omega)]
theorem tdiv10 (n : Int) (h : n < 0) : n.tdiv 10 = -((-n) / 10) := by
  rw [← Int.tdiv_eq_ediv_of_nonneg (by omega), Int.neg_tdiv, Int.neg_neg]
theorem tmod10 (n : Int) (h : n < 0) : n.tmod 10 = -((-n) % 10) := by
  rw [← Int.tmod_eq_emod_of_nonneg (by omega), Int.neg_tmod, Int.neg_neg]
theorem one_digit_fin : ∀ i : Fin 10, (⟨#[48, 49, 50, 51, 52, 53, 54, 55, 56, 57]⟩ : ByteArray).extract i.val (i.val + 1) = ⟨[UInt8.ofNat (48 + i.val)].toArray⟩ := by decide +kernel
theorem one_digit (n : Int) (h0 : 0 ≤ n) (h1 : n < 10) : (⟨#[48, 49, 50, 51, 52, 53, 54, 55, 56, 57]⟩ : ByteArray).extract n.toNat (n + 1).toNat = ⟨(Lib.itoa n).toArray⟩ := by
  rw [itoa_small n h0 h1, show (n + 1).toNat = n.toNat + 1 by omega]
  exact one_digit_fin ⟨n.toNat, by omega⟩
theorem retB {a c : ByteArray} (h : a = c) : Ending.returned (.string a) = .returned (.string c) := by rw [h]
theorem len_itoa {n : Int} (h : R n) : (Lib.itoa n).length ≤ 21 := Lib.itoa_length_le n h.1 h.2
theorem cat (a b : List UInt8) : (⟨a.toArray⟩ : ByteArray) ++ ⟨b.toArray⟩ = ⟨(a ++ b).toArray⟩ := by
  apply ByteArray.ext; simp
/-- So far: the number of the first digits, by its sign. -/
def part (b : Bool) (l : List UInt8) (k : Nat) : Int := if b then -(num (l.take k) : Int) else num (l.take k)
theorem part_all (b : Bool) (l : List UInt8) (k : Nat) (h : l.length ≤ k) : part b l k = if b then -(num l : Int) else num l := by
  unfold part; rw [List.take_of_length_le h]
theorem part_zero (b : Bool) (l : List UInt8) : R (part b l 0) := by
  have e : part b l 0 = 0 := by cases b <;> rfl
  rw [e]; unfold R; omega
theorem part_false_sign (l : List UInt8) (k : Nat) : 0 ≤ part false l k := by unfold part; simp
theorem part_true_sign (l : List UInt8) (k : Nat) : part true l k ≤ 0 := by unfold part; simp
theorem part_false_step (s : ByteArray) (k : Nat) (h : k < s.size) (h0 : 48 ≤ (s[k].toNat : Int)) : part false s.data.toList (k + 1) = part false s.data.toList k * 10 + ((s[k].toNat : Int) - 48) := by
  unfold part; rw [take_snoc s k h, num_snoc, dv]
  have : 48 ≤ s[k].toNat := by omega
  simp; omega
theorem part_true_step (s : ByteArray) (k : Nat) (h : k < s.size) (h0 : 48 ≤ (s[k].toNat : Int)) : part true s.data.toList (k + 1) = part true s.data.toList k * 10 + -((s[k].toNat : Int) - 48) := by
  unfold part; rw [take_snoc s k h, num_snoc, dv]
  have : 48 ≤ s[k].toNat := by omega
  simp; omega
theorem part_le (l : List UInt8) (k : Nat) : (num (l.take k) : Int) ≤ num l := Int.ofNat_le.2 (numFrom_take_le l k)
/-- Once it has run over, it has run over to the end. -/
theorem part_over (b : Bool) (l : List UInt8) (k : Nat) (h : ¬ R (part b l k)) : ¬ R (if b then -(num l : Int) else num l) := by
  have := part_le l k
  unfold part R at *
  cases b <;> simp at * <;> omega
theorem all_at (s : ByteArray) (k : Nat) (h : k < s.size) (ha : digitsB s.data.toList = true) : 48 ≤ (s[k].toNat : Int) ∧ (s[k].toNat : Int) ≤ 57 := by
  simp only [digitsB, Bool.and_eq_true] at ha
  have := List.all_eq_true.1 ha.1 s[k] (by rw [show s[k] = s.data.toList[k]'(by simpa using h) from by simp; rfl]; exact List.getElem_mem _)
  exact (dig_of _).1 this
theorem size_pos_of (s : ByteArray) (h : digitsB s.data.toList = true) : 0 < s.size := by
  simp only [digitsB, Bool.and_eq_true, Bool.not_eq_true', List.isEmpty_eq_false_iff] at h
  rcases Nat.eq_zero_or_pos s.size with h0 | h0
  · exact absurd (List.eq_nil_of_length_eq_zero (by simpa using h0)) h.2
  · exact h0
theorem head_zero (s : ByteArray) (h : 0 < s.size) : (s.data.toList.head? == some 48) = ((s[0].toNat : Int) == 48) := by
  have e : s.data.toList.head? = some s[0] := by
    rw [List.head?_eq_getElem?, List.getElem?_eq_getElem (by simpa using h)]; rfl
  rw [e, Bool.eq_iff_iff]
  simp only [beq_iff_eq, Option.some.injEq]
  constructor
  · intro q; rw [q]; rfl
  · intro q; exact UInt8.toNat_inj.1 (by have : (48 : UInt8).toNat = 48 := rfl; omega)
theorem below_eq (s : ByteArray) (h : 0 < s.size) : below s.data.toList = ((s[0].toNat : Int) == 45) := by
  obtain ⟨c, r, hl⟩ : ∃ c r, s.data.toList = c :: r := by
    cases hl : s.data.toList with
    | nil => have h2 : s.data.toList.length = 0 := by rw [hl]; rfl
             rw [Array.length_toList] at h2; change 0 < s.data.size at h; omega
    | cons c r => exact ⟨c, r, rfl⟩
  have e : s[0] = c := by
    have : s.data.toList[0]? = some s[0] := by rw [List.getElem?_eq_getElem (by simpa using h)]; rfl
    rw [hl] at this; simpa using this.symm
  rw [hl, e, Bool.eq_iff_iff]
  simp only [below, beq_iff_eq]
  constructor
  · intro q; rw [q]; rfl
  · intro q; exact UInt8.toNat_inj.1 (by have : (45 : UInt8).toNat = 45 := rfl; omega)
theorem ok_size (s : ByteArray) (h : digitsB s.data.toList = true) (hp : 0 < s.size) (hz : (s[0].toNat : Int) = 48 → s.size ≤ 1) : okDigits s.data.toList = true := by
  unfold okDigits
  rw [h, head_zero s hp]
  by_cases h0 : (s[0].toNat : Int) = 48
  · have := hz h0
    have hl : decide (1 < s.data.toList.length) = false := by rw [Array.length_toList]; exact decide_eq_false (by change ¬ 1 < s.size; omega)
    rw [hl]; simp
  · have : ((s[0].toNat : Int) == 48) = false := by simpa using h0
    rw [this]; rfl
theorem not_ok_zero (s : ByteArray) (hp : 0 < s.size) (hz : (s[0].toNat : Int) = 48) (h1 : 1 < s.size) : okDigits s.data.toList = false := by
  unfold okDigits
  rw [head_zero s hp, hz]
  have hl : decide (1 < s.data.toList.length) = true := by rw [Array.length_toList]; exact decide_eq_true h1
  rw [hl]; simp
theorem not_ok_dig (l : List UInt8) (h : digitsB l = false) : okDigits l = false := by unfold okDigits; rw [h]; rfl
end Go.Proofs.YtgljbhbpjobnbaaDoor
