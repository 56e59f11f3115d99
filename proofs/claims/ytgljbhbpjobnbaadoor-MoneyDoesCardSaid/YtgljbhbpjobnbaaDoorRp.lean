/- Digits there and back, on lists of bytes: what digits tell, and the digits of a number. No program in sight. -/
import Derived.Test.YtgljbhbpjobnbaaDoorWp
import Derived.Lib.ParseIntBCases
import Derived.Lib.ItoaMem
import Derived.Lib.SlTrimSet
set_option linter.unusedSimpArgs false
set_option linter.unusedVariables false
namespace Go.Proofs.YtgljbhbpjobnbaaDoor
open Go.RowKit Go.Lib

def isDig (c : UInt8) : Bool := decide (48 ≤ c.toNat ∧ c.toNat ≤ 57)
def allDig (l : List UInt8) : Bool := l.all isDig
/-- Are they digits, one at least? -/
def digitsB (l : List UInt8) : Bool := l.all isDig && !l.isEmpty
/-- A digit's value. -/
def dv (c : UInt8) : Nat := c.toNat - 48
/-- The number of digits. -/
def numFrom (a : Nat) (l : List UInt8) : Nat := l.foldl (fun a c => a * 10 + dv c) a
def num (l : List UInt8) : Nat := numFrom 0 l
/-- Is there a sign? -/
def below (l : List UInt8) : Bool := match l with | c :: _ => c == 45 | [] => false
/-- What stands behind the sign. -/
def body (l : List UInt8) : List UInt8 := if below l then l.tail else l
/-- Digits without a nought ahead. -/
def okDigits (l : List UInt8) : Bool := digitsB l && !(l.head? == some 48 && decide (1 < l.length))
def signed (l : List UInt8) : Int := if below l then -(num (body l) : Int) else num (body l)
def rdV (l : List UInt8) : Int := if okDigits (body l) then val (signed l) else 0
def rdE (l : List UInt8) : Int := if okDigits (body l) then err (signed l) else 21
theorem numFrom_cons (a : Nat) (c : UInt8) (r : List UInt8) : numFrom a (c :: r) = numFrom (a * 10 + dv c) r := by unfold numFrom; rw [List.foldl_cons]
theorem numFrom_nil (a : Nat) : numFrom a [] = a := by unfold numFrom; rw [List.foldl_nil]
theorem num_one (c : UInt8) : num [c] = dv c := by rw [num, numFrom_cons, numFrom_nil]; omega
theorem numFrom_ge : ∀ (l : List UInt8) (a : Nat), a ≤ numFrom a l
  | [], a => by rw [numFrom_nil]; exact Nat.le_refl a
  | c :: r, a => by rw [numFrom_cons]; exact Nat.le_trans (by omega) (numFrom_ge r (a * 10 + dv c))
theorem numFrom_append (l m : List UInt8) : ∀ a, numFrom a (l ++ m) = numFrom (numFrom a l) m := by
  induction l with
  | nil => intro a; rw [List.nil_append, numFrom_nil]
  | cons c r ih => intro a; rw [List.cons_append, numFrom_cons, numFrom_cons]; exact ih _
theorem num_snoc (l : List UInt8) (c : UInt8) : num (l ++ [c]) = num l * 10 + dv c := by
  unfold num; rw [numFrom_append, numFrom_cons, numFrom_nil]
theorem numFrom_take_le (l : List UInt8) (k : Nat) : num (l.take k) ≤ num l := by
  have h := numFrom_ge (l.drop k) (num (l.take k))
  have e : num l = numFrom (num (l.take k)) (l.drop k) := by
    unfold num; rw [← numFrom_append, List.take_append_drop]
  rw [e]; exact h
/-! ### The library's own words -/
theorem hasPrefix_dash (l : List UInt8) : Lib.hasPrefix l [45] = below l := by
  cases l with
  | nil => rfl
  | cons c r =>
    show ([45] : List UInt8).isPrefixOf (c :: r) = (c == 45)
    simp only [List.isPrefixOf, Bool.and_true]
    rw [Bool.eq_iff_iff]; simp only [beq_iff_eq]; exact eq_comm
theorem trimPrefix_dash (l : List UInt8) : Lib.trimPrefix l [45] = body l := by
  unfold Lib.trimPrefix body
  rw [hasPrefix_dash]
  cases l <;> rfl
theorem dig_iff (c : UInt8) : ([48, 49, 50, 51, 52, 53, 54, 55, 56, 57] : List UInt8).contains c = isDig c := by
  have h : ∀ n : Fin 256, ([48, 49, 50, 51, 52, 53, 54, 55, 56, 57] : List UInt8).contains (UInt8.ofNat n.val) = isDig (UInt8.ofNat n.val) := by decide +kernel
  have := h ⟨c.toNat, c.toNat_lt⟩
  simpa using this
theorem dropWhile_all {p : UInt8 → Bool} {l : List UInt8} (h : l.all p = true) : l.dropWhile p = [] := by
  induction l with
  | nil => rfl
  | cons c r ih =>
    simp only [List.all_cons, Bool.and_eq_true] at h
    rw [List.dropWhile_cons, if_pos h.1]; exact ih h.2
theorem all_of_dropWhile {p : UInt8 → Bool} {l : List UInt8} (h : l.dropWhile p = []) : l.all p = true := by
  induction l with
  | nil => rfl
  | cons c r ih =>
    rw [List.dropWhile_cons] at h
    split at h
    · rename_i hc
      simp only [List.all_cons, Bool.and_eq_true]
      exact ⟨hc, ih h⟩
    · cases h
theorem all_reverse (p : UInt8 → Bool) (l : List UInt8) : l.reverse.all p = l.all p := by simp
/-- 'strings.Trim(s, set) == ""': are all bytes in the set? -/
theorem trimS_nil (l cs : List UInt8) : Lib.trimS l cs = [] ↔ l.all (cs.contains ·) = true := by
  unfold Lib.trimS Lib.trimLeftS Lib.trimRightS
  constructor
  · intro h
    have h1 := all_of_dropWhile h
    rw [all_reverse] at h1
    -- what is left by the trimming from the right has a last byte outside the set, unless it is empty
    rw [← all_reverse]
    cases hd : (l.reverse.dropWhile (cs.contains ·)) with
    | nil => exact all_of_dropWhile hd
    | cons c r =>
      rw [hd] at h1
      have hc : ¬ cs.contains c = true := by
        have := List.head_dropWhile_not (p := (cs.contains ·)) (l := l.reverse) (by rw [hd]; simp)
        simp only [hd, List.head_cons] at this
        exact fun e => by rw [this] at e; cases e
      simp only [List.all_cons, Bool.and_eq_true] at h1
      exact absurd h1.1 hc
  · intro h
    rw [← all_reverse] at h
    rw [dropWhile_all h]; rfl
theorem trim_digits (l : List UInt8) : Lib.trimS l [48, 49, 50, 51, 52, 53, 54, 55, 56, 57] = [] ↔ l.all isDig = true := by
  rw [trimS_nil, show (([48, 49, 50, 51, 52, 53, 54, 55, 56, 57] : List UInt8).contains ·) = isDig from funext dig_iff]
theorem parseM_cons (M a : Nat) (c : UInt8) (r : List UInt8) (hc : 48 ≤ c.toNat ∧ c.toNat ≤ 57) : Lib.parseUintM M a (c :: r) =
    if 1844674407370955162 ≤ a then .range else if M < a * 10 + (c.toNat - 48) then .range else Lib.parseUintM M (a * 10 + (c.toNat - 48)) r := by
  simp only [Lib.parseUintM, hc, and_self, if_true]
theorem parse_digits (M : Nat) (hM : M ≤ 18446744073709551615) (l : List UInt8) : ∀ (a : Nat), l.all isDig = true → a ≤ M →
    Lib.parseUintM M a l = if numFrom a l ≤ M then .ok (numFrom a l) else .range := by
  induction l with
  | nil => intro a _ ha; rw [numFrom_nil, if_pos ha, Lib.parseUintM]
  | cons c r ih =>
    intro a h ha
    simp only [List.all_cons, Bool.and_eq_true] at h
    obtain ⟨hc, hr⟩ := h
    simp only [isDig, decide_eq_true_eq] at hc
    have hge := numFrom_ge r (a * 10 + dv c)
    rw [parseM_cons _ _ _ _ hc, numFrom_cons]
    rw [show c.toNat - 48 = dv c from rfl]
    by_cases h1 : 1844674407370955162 ≤ a
    · rw [if_pos h1, if_neg (by omega)]
    · rw [if_neg h1]
      by_cases h2 : M < a * 10 + dv c
      · rw [if_pos h2, if_neg (by omega)]
      · rw [if_neg h2]
        exact ih _ hr (by omega)
theorem most64 : 2 ^ 64 - 1 = 18446744073709551615 := by decide
theorem parse_ok (l : List UInt8) (h : digitsB l = true) (hn : num l ≤ 18446744073709551615) : Lib.parseUintB 64 l = .ok (num l) := by
  simp only [digitsB, Bool.and_eq_true, Bool.not_eq_true', List.isEmpty_eq_false_iff] at h
  unfold Lib.parseUintB
  rw [if_neg h.2, most64, parse_digits _ (Nat.le_refl _) l 0 h.1 (Nat.zero_le _), if_pos (show numFrom 0 l ≤ _ from hn)]; rfl
theorem parse_range (l : List UInt8) (h : digitsB l = true) (hn : ¬ num l ≤ 18446744073709551615) : Lib.parseUintB 64 l = .range := by
  simp only [digitsB, Bool.and_eq_true, Bool.not_eq_true', List.isEmpty_eq_false_iff] at h
  unfold Lib.parseUintB
  rw [if_neg h.2, most64, parse_digits _ (Nat.le_refl _) l 0 h.1 (Nat.zero_le _), if_neg (show ¬ numFrom 0 l ≤ _ from hn)]
/-! ### A number's digits are read as the number -/
theorem digit_nat {d : Nat} (h : d < 10) : (UInt8.ofNat (48 + d)).toNat = 48 + d := by
  rw [UInt8.toNat_ofNat']; omega
theorem dec_all (u : Nat) : (Lib.decDigits u).all isDig = true ∧ Lib.decDigits u ≠ [] ∧ num (Lib.decDigits u) = u := by
  induction u using Nat.strongRecOn with
  | _ u ih =>
    rw [Lib.decDigits]
    by_cases h : u < 10
    · rw [dif_pos h]
      refine ⟨?_, by simp, ?_⟩
      · simp only [List.all_cons, List.all_nil, isDig, digit_nat h, Bool.and_true, decide_eq_true_eq]; omega
      · rw [num_one, dv, digit_nat h]; omega
    · rw [dif_neg h]
      obtain ⟨h1, h2, h3⟩ := ih (u / 10) (by omega)
      refine ⟨?_, by simp, ?_⟩
      · rw [List.all_append, h1]
        simp only [List.all_cons, List.all_nil, isDig, digit_nat (Nat.mod_lt u (by decide : 10 > 0)), Bool.and_true, Bool.true_and, decide_eq_true_eq]; omega
      · rw [num_snoc, h3, dv, digit_nat (Nat.mod_lt u (by decide : 10 > 0))]; omega
theorem dec_head (u : Nat) (h : 0 < u) : (Lib.decDigits u).head? ≠ some 48 := by
  induction u using Nat.strongRecOn with
  | _ u ih =>
    rw [Lib.decDigits]
    by_cases hu : u < 10
    · rw [dif_pos hu]
      simp only [List.head?_cons, ne_eq, Option.some.injEq]
      intro e
      have := congrArg UInt8.toNat e
      rw [digit_nat hu] at this
      simp at this; omega
    · rw [dif_neg hu, List.head?_append]
      have h1 := ih (u / 10) (by omega) (by omega)
      have h2 := (dec_all (u / 10)).2.1
      cases hd : Lib.decDigits (u / 10) with
      | nil => exact absurd hd h2
      | cons c r => rw [hd] at h1; simpa using h1
theorem dec_ok (u : Nat) : okDigits (Lib.decDigits u) = true := by
  obtain ⟨h1, h2, _⟩ := dec_all u
  unfold okDigits digitsB
  rw [h1]
  have : (Lib.decDigits u).isEmpty = false := by simpa using h2
  rw [this]
  by_cases h : 0 < u
  · have := dec_head u h
    simp [this]
  · obtain rfl : u = 0 := by omega
    decide +kernel
theorem dec_notdash (u : Nat) : below (Lib.decDigits u) = false := by
  obtain ⟨h1, h2, _⟩ := dec_all u
  cases hd : Lib.decDigits u with
  | nil => rfl
  | cons c r =>
    rw [hd] at h1
    simp only [List.all_cons, Bool.and_eq_true, isDig, decide_eq_true_eq] at h1
    show (c == 45) = false
    rw [beq_eq_false_iff_ne]
    rintro rfl
    exact absurd h1.1.1 (by decide)
theorem read_itoa (n : Int) : okDigits (body (Lib.itoa n)) = true ∧ signed (Lib.itoa n) = n := by
  unfold Lib.itoa
  by_cases h : n < 0
  · rw [if_pos h]
    have hb : below (45 :: Lib.decDigits n.natAbs) = true := rfl
    have e : body (45 :: Lib.decDigits n.natAbs) = Lib.decDigits n.natAbs := by unfold body; rw [hb]; rfl
    refine ⟨by rw [e]; exact dec_ok _, ?_⟩
    unfold signed
    rw [hb, e, (dec_all _).2.2]
    simp only [if_true]; omega
  · rw [if_neg h]
    have hb := dec_notdash n.toNat
    have e : body (Lib.decDigits n.toNat) = Lib.decDigits n.toNat := by unfold body; rw [hb]; rfl
    refine ⟨by rw [e]; exact dec_ok _, ?_⟩
    unfold signed
    rw [hb, e, (dec_all _).2.2]
    simp only [Bool.false_eq_true, if_false]; omega
theorem rdV_itoa (n : Int) (h : R n) : rdV (Lib.itoa n) = n := by
  obtain ⟨h1, h2⟩ := read_itoa n
  unfold rdV; rw [if_pos h1, h2, val_in h]
theorem rdE_itoa (n : Int) (h : R n) : rdE (Lib.itoa n) = 0 := by
  obtain ⟨h1, h2⟩ := read_itoa n
  unfold rdE; rw [if_pos h1, h2, err_in h]
/-! ### What is read is written as the same digits -/
theorem ok_dec : ∀ (n : Nat) (l : List UInt8), l.length = n → okDigits l = true → Lib.decDigits (num l) = l ∧ (1 < l.length → 10 ≤ num l) := by
  intro n
  induction n with
  | zero => intro l hl h; rw [List.length_eq_zero_iff.1 hl] at h; exact absurd h (by decide)
  | succ n ih =>
    intro l hl h
    have hne : l ≠ [] := by intro e; rw [e] at hl; simp at hl
    obtain ⟨m, c, rfl⟩ : ∃ m c, l = m ++ [c] := ⟨l.dropLast, l.getLast hne, (List.dropLast_concat_getLast hne).symm⟩
    simp only [okDigits, digitsB, Bool.and_eq_true, List.all_append, List.all_cons, List.all_nil, Bool.and_true] at h
    obtain ⟨⟨⟨hm, hc⟩, _⟩, hz⟩ := h
    simp only [isDig, decide_eq_true_eq] at hc
    have hml : m.length = n := by simpa using hl
    by_cases hm0 : m = []
    · subst hm0
      have e : num ([] ++ [c]) = c.toNat - 48 := num_one c
      rw [e]
      refine ⟨?_, fun h1 => by simp at h1⟩
      rw [Lib.decDigits_one (by omega)]
      simp only [List.nil_append, List.cons.injEq, and_true]
      apply UInt8.toNat_inj.1
      rw [digit_nat (by omega)]; omega
    · have hh : (m ++ [c]).head? = m.head? := by cases m with
        | nil => exact absurd rfl hm0
        | cons a r => rfl
      have hlen : 1 < (m ++ [c]).length := by
        have : 0 < m.length := List.length_pos_iff.2 hm0
        simp; omega
      rw [hh] at hz
      simp only [decide_eq_true hlen, Bool.and_true, Bool.not_eq_true', beq_eq_false_iff_ne, ne_eq] at hz
      have hmok : okDigits m = true := by
        simp only [okDigits, digitsB, hm, Bool.true_and, Bool.and_eq_true, Bool.not_eq_true']
        refine ⟨by simpa using hm0, ?_⟩
        have : (m.head? == some 48) = false := by rw [beq_eq_false_iff_ne]; exact hz
        rw [this]; rfl
      obtain ⟨h1, h2⟩ := ih m hml hmok
      have hpos : 1 ≤ num m := by
        by_cases h1l : 1 < m.length
        · have := h2 h1l; omega
        · have hl1 : m.length = 1 := by have : 0 < m.length := List.length_pos_iff.2 hm0; omega
          obtain ⟨a, rfl⟩ := List.length_eq_one_iff.1 hl1
          simp only [List.all_cons, List.all_nil, Bool.and_true, isDig, decide_eq_true_eq] at hm
          have ha : a.toNat ≠ 48 := by
            intro e
            apply hz
            simp only [List.head?_cons, Option.some.injEq]
            exact UInt8.toNat_inj.1 (by rw [e]; rfl)
          rw [num_one, dv]; omega
      rw [num_snoc, show dv c = c.toNat - 48 from rfl]
      refine ⟨?_, fun _ => by omega⟩
      rw [Lib.decDigits, dif_neg (by omega), show (num m * 10 + (c.toNat - 48)) / 10 = num m by omega, h1, show (num m * 10 + (c.toNat - 48)) % 10 = c.toNat - 48 by omega]
      congr 1
      simp only [List.cons.injEq, and_true]
      apply UInt8.toNat_inj.1
      rw [digit_nat (by omega)]; omega
/-- WHAT IS READ IS WRITTEN AS THE SAME DIGITS, but -0. -/
theorem itoa_read (l : List UInt8) (h : rdE l = 0) : Lib.itoa (rdV l) = l ∨ (l = [45, 48] ∧ rdV l = 0) := by
  unfold rdE at h
  split at h
  · rename_i hok
    have hR : R (signed l) := by
      by_cases hr : R (signed l)
      · exact hr
      · rw [err_out hr] at h; cases h
    unfold rdV
    rw [if_pos hok, val_in hR]
    obtain ⟨h1, h2⟩ := ok_dec _ _ rfl hok
    unfold signed
    cases hb : below l with
    | false =>
      have e : body l = l := by unfold body; rw [hb]; rfl
      rw [e] at h1 ⊢
      left
      simp only [Bool.false_eq_true, if_false]
      rw [Lib.itoa_nonneg, h1]
    | true =>
      have e : l = 45 :: body l := by
        cases l with
        | nil => cases hb
        | cons c r =>
          have : c = 45 := by simpa [below] using hb
          subst this
          unfold body; rw [hb]; rfl
      simp only [if_true]
      by_cases hz : num (body l) = 0
      · right
        have hb2 : body l = [48] := by rw [← h1, hz]; decide +kernel
        rw [hz]
        exact ⟨by rw [e, hb2], rfl⟩
      · left
        rw [Lib.itoa_neg _ (by omega), h1, ← e]
  · cases h
end Go.Proofs.YtgljbhbpjobnbaaDoor
