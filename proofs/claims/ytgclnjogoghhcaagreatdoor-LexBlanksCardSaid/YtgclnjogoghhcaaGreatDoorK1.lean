/- Walks and plain laws of this proof, joined from smaller texts (1). -/
import Derived.WalkKit
import Derived.Lib.ParseIntBCases
import Derived.Lib.ItoaMem
import Derived.Lib.SlTrimSet
import Derived.WalkSpells
import Derived.Handy
import Derived.Lib.Hide
import Derived.Lib.IndexBytes
import Derived.Lib.ItoaLen
import Derived.Lib.ValidLaws
import Derived.Lib.UnsafeStr
import Derived.Lib.BufferRead
import Derived.Laws.IdiomStrings
import Derived.Laws.AppendOwn
import Derived.OwnWalk
import Derived.Laws.Rows
import Derived.Test.YtgclnjogoghhcaaGreatDoorRows
import Derived.IntWalk
import Derived.LoopTactic
import Derived.Deep.LoopGhost
import Derived.Deep.QuietTactic
import Derived.BigQuiet
import Derived.Deep.RegionHeld3
import Derived.Outline
import Derived.Test.YtgclnjogoghhcaaGreatDoorShelf
import Derived.Laws.RangeAny
import Derived.Laws.Cover4
import Derived.Laws.RangeString
import Derived.ScopeJumps
import Derived.Lib.AsciiSet
import Derived.Deep.WholeRow
import Derived.Laws.ResultCell
set_option linter.unusedSimpArgs false
set_option linter.unusedVariables false
namespace Go.Proofs.YtgclnjogoghhcaaGreatDoor
open Go.RowKit

/-- A number of 64 bits. -/
def R (n : Int) : Prop := -9223372036854775808 ≤ n ∧ n ≤ 9223372036854775807
/-- A number that may be, or 0. -/
def val (n : Int) : Int := if -9223372036854775808 ≤ n ∧ n ≤ 9223372036854775807 then n else 0
/-- The error's number. -/
def err (n : Int) : Int := if -9223372036854775808 ≤ n ∧ n ≤ 9223372036854775807 then 0 else 20
theorem val_in {n : Int} (h : R n) : val n = n := if_pos h
theorem err_in {n : Int} (h : R n) : err n = 0 := if_pos h
theorem val_out {n : Int} (h : ¬ R n) : val n = 0 := if_neg h
theorem err_out {n : Int} (h : ¬ R n) : err n = 20 := if_neg h
theorem ret2 {a b c d : Int} (h : a = c) (h' : b = d) : Ending.returned (.tuple #[.int .i64 a, .int .i64 b]) = .returned (.tuple #[.int .i64 c, .int .i64 d]) := by rw [h, h']
def far (n : Int) : Int := if n < 0 then -n else n
end Go.Proofs.YtgclnjogoghhcaaGreatDoor
namespace Go.Proofs.YtgclnjogoghhcaaGreatDoor
open Go.RowKit Go.Lib

def isDig (c : UInt8) : Bool := decide (48 ≤ c.toNat ∧ c.toNat ≤ 57)
def allDig (l : List UInt8) : Bool := l.all isDig
/-- Are they digits, one at least? -/
def digitsB (l : List UInt8) : Bool := l.all isDig && !l.isEmpty
/-- A digit's value. -/
def dv (c : UInt8) : Nat := c.toNat - 48
/-- The number of digits. -/
def numFrom (a : Nat) (l : List UInt8) : Nat := l.foldl (fun a c => a * 10 + dv c) a
def num (l : List UInt8) : Nat := numFrom 0 l
/-- Is there a sign? -/
def below (l : List UInt8) : Bool := match l with | c :: _ => c == 45 | [] => false
/-- What stands behind the sign. -/
def body (l : List UInt8) : List UInt8 := if below l then l.tail else l
/-- Digits without a nought ahead. -/
def okDigits (l : List UInt8) : Bool := digitsB l && !(l.head? == some 48 && decide (1 < l.length))
def signed (l : List UInt8) : Int := if below l then -(num (body l) : Int) else num (body l)
def rdV (l : List UInt8) : Int := if okDigits (body l) then val (signed l) else 0
def rdE (l : List UInt8) : Int := if okDigits (body l) then err (signed l) else 21
theorem numFrom_cons (a : Nat) (c : UInt8) (r : List UInt8) : numFrom a (c :: r) = numFrom (a * 10 + dv c) r := by unfold numFrom; rw [List.foldl_cons]
theorem numFrom_nil (a : Nat) : numFrom a [] = a := by unfold numFrom; rw [List.foldl_nil]
theorem num_one (c : UInt8) : num [c] = dv c := by rw [num, numFrom_cons, numFrom_nil]; omega
theorem numFrom_ge : ∀ (l : List UInt8) (a : Nat), a ≤ numFrom a l
  | [], a => by rw [numFrom_nil]; exact Nat.le_refl a
  | c :: r, a => by rw [numFrom_cons]; exact Nat.le_trans (by omega) (numFrom_ge r (a * 10 + dv c))
theorem numFrom_append (l m : List UInt8) : ∀ a, numFrom a (l ++ m) = numFrom (numFrom a l) m := by
  induction l with
  | nil => intro a; rw [List.nil_append, numFrom_nil]
  | cons c r ih => intro a; rw [List.cons_append, numFrom_cons, numFrom_cons]; exact ih _
theorem num_snoc (l : List UInt8) (c : UInt8) : num (l ++ [c]) = num l * 10 + dv c := by
  unfold num; rw [numFrom_append, numFrom_cons, numFrom_nil]
theorem numFrom_take_le (l : List UInt8) (k : Nat) : num (l.take k) ≤ num l := by
  have h := numFrom_ge (l.drop k) (num (l.take k))
  have e : num l = numFrom (num (l.take k)) (l.drop k) := by
    unfold num; rw [← numFrom_append, List.take_append_drop]
  rw [e]; exact h
theorem hasPrefix_dash (l : List UInt8) : Lib.hasPrefix l [45] = below l := by
  cases l with
  | nil => rfl
  | cons c r =>
    show ([45] : List UInt8).isPrefixOf (c :: r) = (c == 45)
    simp only [List.isPrefixOf, Bool.and_true]
    rw [Bool.eq_iff_iff]; simp only [beq_iff_eq]; exact eq_comm
theorem trimPrefix_dash (l : List UInt8) : Lib.trimPrefix l [45] = body l := by
  unfold Lib.trimPrefix body
  rw [hasPrefix_dash]
  cases l <;> rfl
theorem dig_iff (c : UInt8) : ([48, 49, 50, 51, 52, 53, 54, 55, 56, 57] : List UInt8).contains c = isDig c := by
  have h : ∀ n : Fin 256, ([48, 49, 50, 51, 52, 53, 54, 55, 56, 57] : List UInt8).contains (UInt8.ofNat n.val) = isDig (UInt8.ofNat n.val) := by decide +kernel
  have := h ⟨c.toNat, c.toNat_lt⟩
  simpa using this
theorem dropWhile_all {p : UInt8 → Bool} {l : List UInt8} (h : l.all p = true) : l.dropWhile p = [] := by
  induction l with
  | nil => rfl
  | cons c r ih =>
    simp only [List.all_cons, Bool.and_eq_true] at h
    rw [List.dropWhile_cons, if_pos h.1]; exact ih h.2
theorem all_of_dropWhile {p : UInt8 → Bool} {l : List UInt8} (h : l.dropWhile p = []) : l.all p = true := by
  induction l with
  | nil => rfl
  | cons c r ih =>
    rw [List.dropWhile_cons] at h
    split at h
    · rename_i hc
      simp only [List.all_cons, Bool.and_eq_true]
      exact ⟨hc, ih h⟩
    · cases h
theorem all_reverse (p : UInt8 → Bool) (l : List UInt8) : l.reverse.all p = l.all p := by simp
/-- 'strings.Trim(s, set) == ""': are all bytes in the set? -/
theorem trimS_nil (l cs : List UInt8) : Lib.trimS l cs = [] ↔ l.all (cs.contains ·) = true := by
  unfold Lib.trimS Lib.trimLeftS Lib.trimRightS
  constructor
  · intro h
    have h1 := all_of_dropWhile h
    rw [all_reverse] at h1
    -- what is left by the trimming from the right has a last byte outside the set, unless it is empty
    rw [← all_reverse]
    cases hd : (l.reverse.dropWhile (cs.contains ·)) with
    | nil => exact all_of_dropWhile hd
    | cons c r =>
      rw [hd] at h1
      have hc : ¬ cs.contains c = true := by
        have := List.head_dropWhile_not (p := (cs.contains ·)) (l := l.reverse) (by rw [hd]; simp)
        simp only [hd, List.head_cons] at this
        exact fun e => by rw [this] at e; cases e
      simp only [List.all_cons, Bool.and_eq_true] at h1
      exact absurd h1.1 hc
  · intro h
    rw [← all_reverse] at h
    rw [dropWhile_all h]; rfl
theorem trim_digits (l : List UInt8) : Lib.trimS l [48, 49, 50, 51, 52, 53, 54, 55, 56, 57] = [] ↔ l.all isDig = true := by
  rw [trimS_nil, show (([48, 49, 50, 51, 52, 53, 54, 55, 56, 57] : List UInt8).contains ·) = isDig from funext dig_iff]
theorem parseM_cons (M a : Nat) (c : UInt8) (r : List UInt8) (hc : 48 ≤ c.toNat ∧ c.toNat ≤ 57) : Lib.parseUintM M a (c :: r) =
    if 1844674407370955162 ≤ a then .range else if M < a * 10 + (c.toNat - 48) then .range else Lib.parseUintM M (a * 10 + (c.toNat - 48)) r := by
  simp only [Lib.parseUintM, hc, and_self, if_true]
theorem parse_digits (M : Nat) (hM : M ≤ 18446744073709551615) (l : List UInt8) : ∀ (a : Nat), l.all isDig = true → a ≤ M →
    Lib.parseUintM M a l = if numFrom a l ≤ M then .ok (numFrom a l) else .range := by
  induction l with
  | nil => intro a _ ha; rw [numFrom_nil, if_pos ha, Lib.parseUintM]
  | cons c r ih =>
    intro a h ha
    simp only [List.all_cons, Bool.and_eq_true] at h
    obtain ⟨hc, hr⟩ := h
    simp only [isDig, decide_eq_true_eq] at hc
    have hge := numFrom_ge r (a * 10 + dv c)
    rw [parseM_cons _ _ _ _ hc, numFrom_cons]
    rw [show c.toNat - 48 = dv c from rfl]
    by_cases h1 : 1844674407370955162 ≤ a
    · rw [if_pos h1, if_neg (by omega)]
    · rw [if_neg h1]
      by_cases h2 : M < a * 10 + dv c
      · rw [if_pos h2, if_neg (by omega)]
      · rw [if_neg h2]
        exact ih _ hr (by omega)
theorem most64 : 2 ^ 64 - 1 = 18446744073709551615 := by decide
theorem parse_ok (l : List UInt8) (h : digitsB l = true) (hn : num l ≤ 18446744073709551615) : Lib.parseUintB 64 l = .ok (num l) := by
  simp only [digitsB, Bool.and_eq_true, Bool.not_eq_true', List.isEmpty_eq_false_iff] at h
  unfold Lib.parseUintB
  rw [if_neg h.2, most64, parse_digits _ (Nat.le_refl _) l 0 h.1 (Nat.zero_le _), if_pos (show numFrom 0 l ≤ _ from hn)]; rfl
theorem parse_range (l : List UInt8) (h : digitsB l = true) (hn : ¬ num l ≤ 18446744073709551615) : Lib.parseUintB 64 l = .range := by
  simp only [digitsB, Bool.and_eq_true, Bool.not_eq_true', List.isEmpty_eq_false_iff] at h
  unfold Lib.parseUintB
  rw [if_neg h.2, most64, parse_digits _ (Nat.le_refl _) l 0 h.1 (Nat.zero_le _), if_neg (show ¬ numFrom 0 l ≤ _ from hn)]
theorem digit_nat {d : Nat} (h : d < 10) : (UInt8.ofNat (48 + d)).toNat = 48 + d := by
  rw [UInt8.toNat_ofNat']; omega
theorem dec_all (u : Nat) : (Lib.decDigits u).all isDig = true ∧ Lib.decDigits u ≠ [] ∧ num (Lib.decDigits u) = u := by
  induction u using Nat.strongRecOn with
  | _ u ih =>
    rw [Lib.decDigits]
    by_cases h : u < 10
    · rw [dif_pos h]
      refine ⟨?_, by simp, ?_⟩
      · simp only [List.all_cons, List.all_nil, isDig, digit_nat h, Bool.and_true, decide_eq_true_eq]; omega
      · rw [num_one, dv, digit_nat h]; omega
    · rw [dif_neg h]
      obtain ⟨h1, h2, h3⟩ := ih (u / 10) (by omega)
      refine ⟨?_, by simp, ?_⟩
      · rw [List.all_append, h1]
        simp only [List.all_cons, List.all_nil, isDig, digit_nat (Nat.mod_lt u (by decide : 10 > 0)), Bool.and_true, Bool.true_and, decide_eq_true_eq]; omega
      · rw [num_snoc, h3, dv, digit_nat (Nat.mod_lt u (by decide : 10 > 0))]; omega
theorem dec_head (u : Nat) (h : 0 < u) : (Lib.decDigits u).head? ≠ some 48 := by
  induction u using Nat.strongRecOn with
  | _ u ih =>
    rw [Lib.decDigits]
    by_cases hu : u < 10
    · rw [dif_pos hu]
      simp only [List.head?_cons, ne_eq, Option.some.injEq]
      intro e
      have := congrArg UInt8.toNat e
      rw [digit_nat hu] at this
      simp at this; omega
    · rw [dif_neg hu, List.head?_append]
      have h1 := ih (u / 10) (by omega) (by omega)
      have h2 := (dec_all (u / 10)).2.1
      cases hd : Lib.decDigits (u / 10) with
      | nil => exact absurd hd h2
      | cons c r => rw [hd] at h1; simpa using h1
theorem dec_ok (u : Nat) : okDigits (Lib.decDigits u) = true := by
  obtain ⟨h1, h2, _⟩ := dec_all u
  unfold okDigits digitsB
  rw [h1]
  have : (Lib.decDigits u).isEmpty = false := by simpa using h2
  rw [this]
  by_cases h : 0 < u
  · have := dec_head u h
    simp [this]
  · obtain rfl : u = 0 := by omega
    decide +kernel
theorem dec_notdash (u : Nat) : below (Lib.decDigits u) = false := by
  obtain ⟨h1, h2, _⟩ := dec_all u
  cases hd : Lib.decDigits u with
  | nil => rfl
  | cons c r =>
    rw [hd] at h1
    simp only [List.all_cons, Bool.and_eq_true, isDig, decide_eq_true_eq] at h1
    show (c == 45) = false
    rw [beq_eq_false_iff_ne]
    rintro rfl
    exact absurd h1.1.1 (by decide)
theorem read_itoa (n : Int) : okDigits (body (Lib.itoa n)) = true ∧ signed (Lib.itoa n) = n := by
  unfold Lib.itoa
  by_cases h : n < 0
  · rw [if_pos h]
    have hb : below (45 :: Lib.decDigits n.natAbs) = true := rfl
    have e : body (45 :: Lib.decDigits n.natAbs) = Lib.decDigits n.natAbs := by unfold body; rw [hb]; rfl
    refine ⟨by rw [e]; exact dec_ok _, ?_⟩
    unfold signed
    rw [hb, e, (dec_all _).2.2]
    simp only [if_true]; omega
  · rw [if_neg h]
    have hb := dec_notdash n.toNat
    have e : body (Lib.decDigits n.toNat) = Lib.decDigits n.toNat := by unfold body; rw [hb]; rfl
    refine ⟨by rw [e]; exact dec_ok _, ?_⟩
    unfold signed
    rw [hb, e, (dec_all _).2.2]
    simp only [Bool.false_eq_true, if_false]; omega
theorem rdV_itoa (n : Int) (h : R n) : rdV (Lib.itoa n) = n := by
  obtain ⟨h1, h2⟩ := read_itoa n
  unfold rdV; rw [if_pos h1, h2, val_in h]
theorem rdE_itoa (n : Int) (h : R n) : rdE (Lib.itoa n) = 0 := by
  obtain ⟨h1, h2⟩ := read_itoa n
  unfold rdE; rw [if_pos h1, h2, err_in h]
theorem ok_dec : ∀ (n : Nat) (l : List UInt8), l.length = n → okDigits l = true → Lib.decDigits (num l) = l ∧ (1 < l.length → 10 ≤ num l) := by
  intro n
  induction n with
  | zero => intro l hl h; rw [List.length_eq_zero_iff.1 hl] at h; exact absurd h (by decide)
  | succ n ih =>
    intro l hl h
    have hne : l ≠ [] := by intro e; rw [e] at hl; simp at hl
    obtain ⟨m, c, rfl⟩ : ∃ m c, l = m ++ [c] := ⟨l.dropLast, l.getLast hne, (List.dropLast_concat_getLast hne).symm⟩
    simp only [okDigits, digitsB, Bool.and_eq_true, List.all_append, List.all_cons, List.all_nil, Bool.and_true] at h
    obtain ⟨⟨⟨hm, hc⟩, _⟩, hz⟩ := h
    simp only [isDig, decide_eq_true_eq] at hc
    have hml : m.length = n := by simpa using hl
    by_cases hm0 : m = []
    · subst hm0
      have e : num ([] ++ [c]) = c.toNat - 48 := num_one c
      rw [e]
      refine ⟨?_, fun h1 => by simp at h1⟩
      rw [Lib.decDigits_one (by omega)]
      simp only [List.nil_append, List.cons.injEq, and_true]
      apply UInt8.toNat_inj.1
      rw [digit_nat (by omega)]; omega
    · have hh : (m ++ [c]).head? = m.head? := by cases m with
        | nil => exact absurd rfl hm0
        | cons a r => rfl
      have hlen : 1 < (m ++ [c]).length := by
        have : 0 < m.length := List.length_pos_iff.2 hm0
        simp; omega
      rw [hh] at hz
      simp only [decide_eq_true hlen, Bool.and_true, Bool.not_eq_true', beq_eq_false_iff_ne, ne_eq] at hz
      have hmok : okDigits m = true := by
        simp only [okDigits, digitsB, hm, Bool.true_and, Bool.and_eq_true, Bool.not_eq_true']
        refine ⟨by simpa using hm0, ?_⟩
        have : (m.head? == some 48) = false := by rw [beq_eq_false_iff_ne]; exact hz
        rw [this]; rfl
      obtain ⟨h1, h2⟩ := ih m hml hmok
      have hpos : 1 ≤ num m := by
        by_cases h1l : 1 < m.length
        · have := h2 h1l; omega
        · have hl1 : m.length = 1 := by have : 0 < m.length := List.length_pos_iff.2 hm0; omega
          obtain ⟨a, rfl⟩ := List.length_eq_one_iff.1 hl1
          simp only [List.all_cons, List.all_nil, Bool.and_true, isDig, decide_eq_true_eq] at hm
          have ha : a.toNat ≠ 48 := by
            intro e
            apply hz
            simp only [List.head?_cons, Option.some.injEq]
            exact UInt8.toNat_inj.1 (by rw [e]; rfl)
          rw [num_one, dv]; omega
      rw [num_snoc, show dv c = c.toNat - 48 from rfl]
      refine ⟨?_, fun _ => by omega⟩
      rw [Lib.decDigits, dif_neg (by omega), show (num m * 10 + (c.toNat - 48)) / 10 = num m by omega, h1, show (num m * 10 + (c.toNat - 48)) % 10 = c.toNat - 48 by omega]
      congr 1
      simp only [List.cons.injEq, and_true]
      apply UInt8.toNat_inj.1
      rw [digit_nat (by omega)]; omega
/-- WHAT IS READ IS WRITTEN AS THE SAME DIGITS, but -0. -/
theorem itoa_read (l : List UInt8) (h : rdE l = 0) : Lib.itoa (rdV l) = l ∨ (l = [45, 48] ∧ rdV l = 0) := by
  unfold rdE at h
  split at h
  · rename_i hok
    have hR : R (signed l) := by
      by_cases hr : R (signed l)
      · exact hr
      · rw [err_out hr] at h; cases h
    unfold rdV
    rw [if_pos hok, val_in hR]
    obtain ⟨h1, h2⟩ := ok_dec _ _ rfl hok
    unfold signed
    cases hb : below l with
    | false =>
      have e : body l = l := by unfold body; rw [hb]; rfl
      rw [e] at h1 ⊢
      left
      simp only [Bool.false_eq_true, if_false]
      rw [Lib.itoa_nonneg, h1]
    | true =>
      have e : l = 45 :: body l := by
        cases l with
        | nil => cases hb
        | cons c r =>
          have : c = 45 := by simpa [below] using hb
          subst this
          unfold body; rw [hb]; rfl
      simp only [if_true]
      by_cases hz : num (body l) = 0
      · right
        have hb2 : body l = [48] := by rw [← h1, hz]; decide +kernel
        rw [hz]
        exact ⟨by rw [e, hb2], rfl⟩
      · left
        rw [Lib.itoa_neg _ (by omega), h1, ← e]
  · cases h
end Go.Proofs.YtgclnjogoghhcaaGreatDoor
namespace Go.Proofs.YtgclnjogoghhcaaGreatDoor
open Go.RowKit
theorem retS {a c : List UInt8} (h : a = c) : Ending.returned (.string ⟨a.toArray⟩) = .returned (.string ⟨c.toArray⟩) := by rw [h]
theorem take_snoc (s : ByteArray) (k : Nat) (h : k < s.size) : s.data.toList.take (k + 1) = s.data.toList.take k ++ [s[k]] := by
  rw [List.take_succ_eq_append_getElem (by simpa using h)]; rfl
theorem all_take_snoc (s : ByteArray) (k : Nat) (h : k < s.size) : (s.data.toList.take (k + 1)).all isDig = ((s.data.toList.take k).all isDig && isDig s[k]) := by
  rw [take_snoc s k h]; simp
theorem all_of_take (l : List UInt8) (k : Nat) (h : (l.take k).all isDig = false) : l.all isDig = false := by
  cases hl : l.all isDig with
  | false => rfl
  | true =>
    rw [List.all_eq_true] at hl
    have : (l.take k).all isDig = true := List.all_eq_true.2 fun x hx => hl x (List.mem_of_mem_take hx)
    rw [this] at h; cases h
theorem dig_of (c : UInt8) : isDig c = true ↔ 48 ≤ (c.toNat : Int) ∧ (c.toNat : Int) ≤ 57 := by
  unfold isDig; rw [decide_eq_true_eq]; omega
theorem dig_not {c : UInt8} (h : ¬ isDig c = true) : (c.toNat : Int) < 48 ∨ 57 < (c.toNat : Int) := by
  rw [dig_of] at h; omega
theorem itoa_small (n : Int) (h0 : 0 ≤ n) (h1 : n < 10) : Lib.itoa n = [UInt8.ofNat (48 + n.toNat)] := by
  obtain ⟨u, rfl⟩ := Int.eq_ofNat_of_zero_le h0
  rw [Lib.itoa_nonneg, Lib.decDigits_one (by omega)]; rfl
theorem itoa_minus (n : Int) (h : n < 0) : Lib.itoa n = 45 :: Lib.itoa (-n) := by
  obtain ⟨u, hu⟩ := Int.eq_ofNat_of_zero_le (show 0 ≤ -n by omega)
  rw [hu, Lib.itoa_nonneg, show n = -(u : Int) by omega, Lib.itoa_neg _ (by omega)]
theorem itoa_pos (n : Int) (h : 10 ≤ n) : Lib.itoa n = Lib.itoa (n / 10) ++ Lib.itoa (n % 10) := by
  obtain ⟨u, rfl⟩ := Int.eq_ofNat_of_zero_le (show 0 ≤ n by omega)
  rw [show (u : Int) / 10 = ((u / 10 : Nat) : Int) by omega, show (u : Int) % 10 = ((u % 10 : Nat) : Int) by omega, Lib.itoa_nonneg, Lib.itoa_nonneg, Lib.itoa_nonneg, Lib.decDigits, dif_neg (by omega), Lib.decDigits_one (Nat.mod_lt _ (by decide))]
theorem itoa_neg10 (n d : Int) (h : n ≤ -10) (hd : d = (-n) % 10) : Lib.itoa n = Lib.itoa (-((-n) / 10)) ++ Lib.itoa d := by
  rw [itoa_minus n (by omega), itoa_minus (-((-n) / 10)) (by omega), hd, Int.neg_neg, List.cons_append, ← itoa_pos (-n) (by omega)]
theorem tdiv10 (n : Int) (h : n < 0) : n.tdiv 10 = -((-n) / 10) := by
  rw [← Int.tdiv_eq_ediv_of_nonneg (by omega), Int.neg_tdiv, Int.neg_neg]
theorem tmod10 (n : Int) (h : n < 0) : n.tmod 10 = -((-n) % 10) := by
  rw [← Int.tmod_eq_emod_of_nonneg (by omega), Int.neg_tmod, Int.neg_neg]
theorem one_digit_fin : ∀ i : Fin 10, (⟨#[48, 49, 50, 51, 52, 53, 54, 55, 56, 57]⟩ : ByteArray).extract i.val (i.val + 1) = ⟨[UInt8.ofNat (48 + i.val)].toArray⟩ := by decide +kernel
theorem one_digit (n : Int) (h0 : 0 ≤ n) (h1 : n < 10) : (⟨#[48, 49, 50, 51, 52, 53, 54, 55, 56, 57]⟩ : ByteArray).extract n.toNat (n + 1).toNat = ⟨(Lib.itoa n).toArray⟩ := by
  rw [itoa_small n h0 h1, show (n + 1).toNat = n.toNat + 1 by omega]
  exact one_digit_fin ⟨n.toNat, by omega⟩
theorem retB {a c : ByteArray} (h : a = c) : Ending.returned (.string a) = .returned (.string c) := by rw [h]
theorem len_itoa {n : Int} (h : R n) : (Lib.itoa n).length ≤ 21 := Lib.itoa_length_le n h.1 h.2
theorem cat (a b : List UInt8) : (⟨a.toArray⟩ : ByteArray) ++ ⟨b.toArray⟩ = ⟨(a ++ b).toArray⟩ := by
  apply ByteArray.ext; simp
/-- So far: the number of the first digits, by its sign. -/
def part (b : Bool) (l : List UInt8) (k : Nat) : Int := if b then -(num (l.take k) : Int) else num (l.take k)
theorem part_all (b : Bool) (l : List UInt8) (k : Nat) (h : l.length ≤ k) : part b l k = if b then -(num l : Int) else num l := by
  unfold part; rw [List.take_of_length_le h]
theorem part_zero (b : Bool) (l : List UInt8) : R (part b l 0) := by
  have e : part b l 0 = 0 := by cases b <;> rfl
  rw [e]; unfold R; omega
theorem part_false_sign (l : List UInt8) (k : Nat) : 0 ≤ part false l k := by unfold part; simp
theorem part_true_sign (l : List UInt8) (k : Nat) : part true l k ≤ 0 := by unfold part; simp
theorem part_false_step (s : ByteArray) (k : Nat) (h : k < s.size) (h0 : 48 ≤ (s[k].toNat : Int)) : part false s.data.toList (k + 1) = part false s.data.toList k * 10 + ((s[k].toNat : Int) - 48) := by
  unfold part; rw [take_snoc s k h, num_snoc, dv]
  have : 48 ≤ s[k].toNat := by omega
  simp; omega
theorem part_true_step (s : ByteArray) (k : Nat) (h : k < s.size) (h0 : 48 ≤ (s[k].toNat : Int)) : part true s.data.toList (k + 1) = part true s.data.toList k * 10 + -((s[k].toNat : Int) - 48) := by
  unfold part; rw [take_snoc s k h, num_snoc, dv]
  have : 48 ≤ s[k].toNat := by omega
  simp; omega
theorem part_le (l : List UInt8) (k : Nat) : (num (l.take k) : Int) ≤ num l := Int.ofNat_le.2 (numFrom_take_le l k)
/-- Once it has run over, it has run over to the end. -/
theorem part_over (b : Bool) (l : List UInt8) (k : Nat) (h : ¬ R (part b l k)) : ¬ R (if b then -(num l : Int) else num l) := by
  have := part_le l k
  unfold part R at *
  cases b <;> simp at * <;> omega
theorem all_at (s : ByteArray) (k : Nat) (h : k < s.size) (ha : digitsB s.data.toList = true) : 48 ≤ (s[k].toNat : Int) ∧ (s[k].toNat : Int) ≤ 57 := by
  simp only [digitsB, Bool.and_eq_true] at ha
  have := List.all_eq_true.1 ha.1 s[k] (by rw [show s[k] = s.data.toList[k]'(by simpa using h) from by simp; rfl]; exact List.getElem_mem _)
  exact (dig_of _).1 this
theorem size_pos_of (s : ByteArray) (h : digitsB s.data.toList = true) : 0 < s.size := by
  simp only [digitsB, Bool.and_eq_true, Bool.not_eq_true', List.isEmpty_eq_false_iff] at h
  rcases Nat.eq_zero_or_pos s.size with h0 | h0
  · exact absurd (List.eq_nil_of_length_eq_zero (by simpa using h0)) h.2
  · exact h0
theorem head_zero (s : ByteArray) (h : 0 < s.size) : (s.data.toList.head? == some 48) = ((s[0].toNat : Int) == 48) := by
  have e : s.data.toList.head? = some s[0] := by
    rw [List.head?_eq_getElem?, List.getElem?_eq_getElem (by simpa using h)]; rfl
  rw [e, Bool.eq_iff_iff]
  simp only [beq_iff_eq, Option.some.injEq]
  constructor
  · intro q; rw [q]; rfl
  · intro q; exact UInt8.toNat_inj.1 (by have : (48 : UInt8).toNat = 48 := rfl; omega)
theorem below_eq (s : ByteArray) (h : 0 < s.size) : below s.data.toList = ((s[0].toNat : Int) == 45) := by
  obtain ⟨c, r, hl⟩ : ∃ c r, s.data.toList = c :: r := by
    cases hl : s.data.toList with
    | nil => have h2 : s.data.toList.length = 0 := by rw [hl]; rfl
             rw [Array.length_toList] at h2; change 0 < s.data.size at h; omega
    | cons c r => exact ⟨c, r, rfl⟩
  have e : s[0] = c := by
    have : s.data.toList[0]? = some s[0] := by rw [List.getElem?_eq_getElem (by simpa using h)]; rfl
    rw [hl] at this; simpa using this.symm
  rw [hl, e, Bool.eq_iff_iff]
  simp only [below, beq_iff_eq]
  constructor
  · intro q; rw [q]; rfl
  · intro q; exact UInt8.toNat_inj.1 (by have : (45 : UInt8).toNat = 45 := rfl; omega)
theorem ok_size (s : ByteArray) (h : digitsB s.data.toList = true) (hp : 0 < s.size) (hz : (s[0].toNat : Int) = 48 → s.size ≤ 1) : okDigits s.data.toList = true := by
  unfold okDigits
  rw [h, head_zero s hp]
  by_cases h0 : (s[0].toNat : Int) = 48
  · have := hz h0
    have hl : decide (1 < s.data.toList.length) = false := by rw [Array.length_toList]; exact decide_eq_false (by change ¬ 1 < s.size; omega)
    rw [hl]; simp
  · have : ((s[0].toNat : Int) == 48) = false := by simpa using h0
    rw [this]; rfl
theorem not_ok_zero (s : ByteArray) (hp : 0 < s.size) (hz : (s[0].toNat : Int) = 48) (h1 : 1 < s.size) : okDigits s.data.toList = false := by
  unfold okDigits
  rw [head_zero s hp, hz]
  have hl : decide (1 < s.data.toList.length) = true := by rw [Array.length_toList]; exact decide_eq_true h1
  rw [hl]; simp
theorem not_ok_dig (l : List UInt8) (h : digitsB l = false) : okDigits l = false := by unfold okDigits; rw [h]; rfl
end Go.Proofs.YtgclnjogoghhcaaGreatDoor
namespace Go.Proofs.YtgclnjogoghhcaaGreatDoor
open Go.Lib
def isPt (n : Nat) : Bool := decide (n ≤ 1114111 ∧ (n < 55296 ∨ 57343 < n))
def encN (n : Nat) : List UInt8 :=
  if n < 128 then [UInt8.ofNat n] else if n < 2048 then [UInt8.ofNat (192 + n / 64), UInt8.ofNat (128 + n % 64)]
  else if n < 65536 then [UInt8.ofNat (224 + n / 4096), UInt8.ofNat (128 + n / 64 % 64), UInt8.ofNat (128 + n % 64)]
  else [UInt8.ofNat (240 + n / 262144), UInt8.ofNat (128 + n / 4096 % 64), UInt8.ofNat (128 + n / 64 % 64), UInt8.ofNat (128 + n % 64)]
/-- What the bytes of one code point would tell. -/
def numN : List UInt8 → Nat
  | [a] => a.toNat
  | [a, b] => 64 * (a.toNat % 32) + b.toNat % 64
  | [a, b, c] => 64 * (64 * (a.toNat % 16) + b.toNat % 64) + c.toNat % 64
  | [a, b, c, d] => 64 * (64 * (64 * (a.toNat % 8) + b.toNat % 64) + c.toNat % 64) + d.toNat % 64
  | _ => 0
def oneB (l : List UInt8) (k : Nat) : Bool := decide (k ≤ l.length) && (isPt (numN (l.take k)) && encN (numN (l.take k)) == l.take k)
theorem ofN (n : Nat) (h : n < 256) : (UInt8.ofNat n).toNat = n := by rw [UInt8.toNat_ofNat']; omega
theorem toN {x : UInt8} {n : Nat} (h : x.toNat = n) : UInt8.ofNat n = x := by rw [← h, UInt8.ofNat_toNat]
theorem enc_len (n : Nat) (h : isPt n = true) : (encN n).length = if n < 128 then 1 else if n < 2048 then 2 else if n < 65536 then 3 else 4 := by
  unfold encN; repeat' split
  all_goals first | rfl | omega
/-- The bytes of a code point are decoded as it. -/
theorem decode_enc (n : Nat) (h : isPt n = true) (t : List UInt8) : decodeL (encN n ++ t) = (n, (encN n).length) := by
  simp only [isPt, decide_eq_true_eq] at h
  rw [decodeL_N]
  unfold encN
  by_cases h1 : n < 128
  · rw [if_pos h1]
    simp only [List.cons_append, List.nil_append, List.getD_cons_zero, List.length_cons, List.length_nil]
    rw [ofN n (by omega)]
    unfold decodeN
    rw [if_pos h1]
  · rw [if_neg h1]
    by_cases h2 : n < 2048
    · rw [if_pos h2]
      simp only [List.cons_append, List.nil_append, List.getD_cons_zero, List.getD_cons_succ, List.length_cons, List.length_nil]
      rw [ofN _ (by omega), ofN _ (by omega)]
      unfold decodeN
      rw [if_neg (by omega), if_pos (by omega), if_pos (by omega)]
      exact Prod.ext (by show _ = n; omega) rfl
    · rw [if_neg h2]
      by_cases h3 : n < 65536
      · rw [if_pos h3]
        simp only [List.cons_append, List.nil_append, List.getD_cons_zero, List.getD_cons_succ, List.length_cons, List.length_nil]
        rw [ofN _ (by omega), ofN _ (by omega), ofN _ (by omega)]
        unfold decodeN
        rw [if_neg (by omega), if_neg (by omega), if_pos (by omega), if_pos (by omega)]
        exact Prod.ext (by show _ = n; omega) rfl
      · rw [if_neg h3]
        simp only [List.cons_append, List.nil_append, List.getD_cons_zero, List.getD_cons_succ, List.length_cons, List.length_nil]
        rw [ofN _ (by omega), ofN _ (by omega), ofN _ (by omega), ofN _ (by omega)]
        unfold decodeN
        rw [if_neg (by omega), if_neg (by omega), if_neg (by omega), if_pos (by omega), if_pos (by omega)]
        exact Prod.ext (by show _ = n; omega) rfl
theorem decode_one (l : List UInt8) (k : Nat) (h : oneB l k = true) : decodeL l = (numN (l.take k), k) := by
  simp only [oneB, Bool.and_eq_true, decide_eq_true_eq, beq_iff_eq] at h
  obtain ⟨h1, h2, h3⟩ := h
  have e : l = encN (numN (l.take k)) ++ l.drop k := by rw [h3, List.take_append_drop]
  have := decode_enc (numN (l.take k)) h2 (l.drop k)
  rw [← e, h3] at this
  rw [this, List.length_take, Nat.min_eq_left h1]
/-- What is decoded well is one code point's bytes. -/
theorem one_decode (l : List UInt8) (hne : l ≠ []) (hv : ¬ ((decodeL l).1 = 65533 ∧ (decodeL l).2 = 1)) : oneB l (decodeL l).2 = true ∧ numN (l.take (decodeL l).2) = (decodeL l).1 ∧ 1 ≤ (decodeL l).2 ∧ (decodeL l).2 ≤ 4 := by
  have hl : 0 < l.length := List.length_pos_iff.2 hne
  rw [decodeL_N] at hv ⊢
  have k0 := (l.getD 0 0).toNat_lt
  have k1 := (l.getD 1 0).toNat_lt
  have k2 := (l.getD 2 0).toNat_lt
  have k3 := (l.getD 3 0).toNat_lt
  rcases decodeN_shape l.length (l.getD 0 0).toNat (l.getD 1 0).toNat (l.getD 2 0).toNat (l.getD 3 0).toNat with ⟨c, e⟩ | ⟨c1, c2, c3, cv, e⟩ | ⟨c1, c2, c3, c4, cv, cs, e⟩ | ⟨c1, c2, c3, c4, c5, cv, cw, e⟩ | e
  · rw [e]
    dsimp only
    have hn : numN (l.take 1) = (l.getD 0 0).toNat := by rw [takeA l hl]; rfl
    refine ⟨?_, hn, by omega, by omega⟩
    unfold oneB
    rw [hn, takeA l hl, decide_eq_true (by omega)]
    simp only [Bool.true_and, Bool.and_eq_true, beq_iff_eq]
    refine ⟨by simp only [isPt, decide_eq_true_eq]; omega, ?_⟩
    unfold encN
    rw [if_pos c, toN rfl]
  · rw [e]
    dsimp only
    have hn : numN (l.take 2) = (l.getD 0 0).toNat % 32 * 64 + (l.getD 1 0).toNat % 64 := by rw [takeB l c2]; simp only [numN]; omega
    refine ⟨?_, hn, by omega, by omega⟩
    unfold oneB
    rw [hn, takeB l c2, decide_eq_true (by omega)]
    simp only [Bool.true_and, Bool.and_eq_true, beq_iff_eq]
    refine ⟨by simp only [isPt, decide_eq_true_eq]; omega, ?_⟩
    unfold encN
    rw [if_neg (by omega), if_pos (by omega), toN (x := l.getD 0 0) (by omega), toN (x := l.getD 1 0) (by omega)]
  · rw [e]
    dsimp only
    have hn : numN (l.take 3) = (l.getD 0 0).toNat % 16 * 4096 + (l.getD 1 0).toNat % 64 * 64 + (l.getD 2 0).toNat % 64 := by rw [takeC l c2]; simp only [numN]; omega
    refine ⟨?_, hn, by omega, by omega⟩
    unfold oneB
    rw [hn, takeC l c2, decide_eq_true (by omega)]
    simp only [Bool.true_and, Bool.and_eq_true, beq_iff_eq]
    refine ⟨by simp only [isPt, decide_eq_true_eq]; omega, ?_⟩
    unfold encN
    rw [if_neg (by omega), if_neg (by omega), if_pos (by omega), toN (x := l.getD 0 0) (by omega), toN (x := l.getD 1 0) (by omega), toN (x := l.getD 2 0) (by omega)]
  · rw [e]
    dsimp only
    have hn : numN (l.take 4) = (l.getD 0 0).toNat % 8 * 262144 + (l.getD 1 0).toNat % 64 * 4096 + (l.getD 2 0).toNat % 64 * 64 + (l.getD 3 0).toNat % 64 := by rw [takeD l c2]; simp only [numN]; omega
    refine ⟨?_, hn, by omega, by omega⟩
    unfold oneB
    rw [hn, takeD l c2, decide_eq_true (by omega)]
    simp only [Bool.true_and, Bool.and_eq_true, beq_iff_eq]
    refine ⟨by simp only [isPt, decide_eq_true_eq]; omega, ?_⟩
    unfold encN
    rw [if_neg (by omega), if_neg (by omega), if_neg (by omega), toN (x := l.getD 0 0) (by omega), toN (x := l.getD 1 0) (by omega), toN (x := l.getD 2 0) (by omega), toN (x := l.getD 3 0) (by omega)]
  · rw [e] at hv
    exact absurd ⟨rfl, rfl⟩ hv
/-- Is the first code point well? -/
def wellB (l : List UInt8) : Bool := !decide ((decodeL l).1 = 65533 ∧ (decodeL l).2 = 1)
/-- The sizes are tried in order: the first that fits is the decoded one's. -/
theorem one_iff (l : List UInt8) (hne : l ≠ []) (k : Nat) (hk : 1 ≤ k) (hk4 : k ≤ 4) : oneB l k = (wellB l && decide (k = (decodeL l).2)) := by
  by_cases hv : (decodeL l).1 = 65533 ∧ (decodeL l).2 = 1
  · have hw : wellB l = false := by unfold wellB; rw [decide_eq_true hv]; rfl
    rw [hw, Bool.false_and]
    cases h : oneB l k with
    | false => rfl
    | true =>
      exfalso
      have e := decode_one l k h
      rw [e] at hv
      obtain ⟨hv1, hv2⟩ := hv
      simp only at hv1 hv2
      subst hv2
      simp only [oneB, Bool.and_eq_true, beq_iff_eq] at h
      have := congrArg List.length h.2.2
      rw [hv1] at this
      rw [List.length_take] at this
      have h3 : (encN 65533).length = 3 := by decide
      omega
  · have hw : wellB l = true := by unfold wellB; rw [decide_eq_false hv]; rfl
    obtain ⟨g1, g2, g3, g4⟩ := one_decode l hne hv
    rw [hw, Bool.true_and]
    by_cases e : k = (decodeL l).2
    · rw [decide_eq_true e, e]; exact g1
    · rw [decide_eq_false e]
      cases h : oneB l k with
      | false => rfl
      | true => exact absurd (congrArg Prod.snd (decode_one l k h)).symm e
/-- A text's code points: how the document reads it. -/
theorem valid_step (l : List UInt8) (hne : l ≠ []) : validD l = (wellB l && validD (l.drop (decodeL l).2)) := by
  rw [validD_step l hne]
  unfold wellB
  by_cases h : (decodeL l).1 = 65533 ∧ (decodeL l).2 = 1
  · rw [if_pos h, decide_eq_true h]; rfl
  · rw [if_neg h, decide_eq_false h]; rfl
/-- The code points of a text. -/
def ptsGo : Nat → List UInt8 → List Nat
  | 0, _ => []
  | n + 1, l => if l = [] then [] else (decodeL l).1 :: ptsGo n (l.drop (decodeL l).2)
def pts (l : List UInt8) : List Nat := ptsGo l.length l
theorem ptsGo_nil : ∀ n, ptsGo n [] = []
  | 0 => rfl
  | n + 1 => by simp [ptsGo]
theorem ptsGo_fuel : ∀ (n m : Nat) (l : List UInt8), l.length ≤ n → l.length ≤ m → ptsGo n l = ptsGo m l
  | 0, m, l, hn, _ => by
    have : l = [] := List.eq_nil_of_length_eq_zero (by omega)
    subst this
    rw [ptsGo_nil, ptsGo_nil]
  | n + 1, 0, l, _, hm => by
    have : l = [] := List.eq_nil_of_length_eq_zero (by omega)
    subst this
    rw [ptsGo_nil, ptsGo_nil]
  | n + 1, m + 1, l, hn, hm => by
    unfold ptsGo
    by_cases hne : l = []
    · simp [hne]
    · have hw := decodeL_width l
      have hl : 0 < l.length := List.length_pos_iff.2 hne
      rw [if_neg hne, if_neg hne, ptsGo_fuel n m (l.drop (decodeL l).2) (by rw [List.length_drop]; omega) (by rw [List.length_drop]; omega)]
theorem pts_nil : pts [] = [] := rfl
theorem pts_step (l : List UInt8) (hne : l ≠ []) : pts l = (decodeL l).1 :: pts (l.drop (decodeL l).2) := by
  have hl : 0 < l.length := List.length_pos_iff.2 hne
  have hw := decodeL_width l
  obtain ⟨n, hn⟩ : ∃ n, l.length = n + 1 := ⟨l.length - 1, by omega⟩
  unfold pts
  rw [hn]
  show (if l = [] then [] else _) = _
  rw [if_neg hne, ptsGo_fuel n (l.drop (decodeL l).2).length _ (by rw [List.length_drop]; omega) (Nat.le_refl _)]
end Go.Proofs.YtgclnjogoghhcaaGreatDoor
namespace Go.Proofs.YtgclnjogoghhcaaGreatDoor
open Go.Lib
def nameC (c : UInt8) : Bool := decide ((97 ≤ c.toNat ∧ c.toNat ≤ 122) ∨ (65 ≤ c.toNat ∧ c.toNat ≤ 90) ∨ c.toNat = 95 ∨ (48 ≤ c.toNat ∧ c.toNat ≤ 57))
/-- Is a text a name? -/
def nameB : List UInt8 → Bool
  | [] => false
  | c :: r => !isDig c && (c :: r).all nameC
def marksL : List UInt8 := [33, 36, 38, 40, 41, 58, 61, 64, 91, 93, 123, 124, 125]
def markB (l : List UInt8) : Bool := l == [46, 46, 46] || (match l with | [c] => marksL.contains c | _ => false)
def textB (l : List UInt8) : Bool := decide (l.length ≤ 16384) && validD l
/-- A token: its kind, its text, where it stood. -/
structure Tok where
  kind : UInt8
  text : List UInt8
  pos : Int
/-- May a token be? -/
def okT (t : Tok) : Bool :=
  if t.kind = 0 then t.text.isEmpty else if t.kind = 1 then nameB t.text else if t.kind = 2 then okDigits (body t.text) else if t.kind = 3 then textB t.text else if t.kind = 4 then markB t.text else false
def hexD (n : Nat) : UInt8 := if n < 10 then UInt8.ofNat (48 + n) else UInt8.ofNat (87 + n)
def quoteC (c : UInt8) : List UInt8 :=
  if c = 34 ∨ c = 92 then [92, c] else if c = 8 then [92, 98] else if c = 9 then [92, 116] else if c = 10 then [92, 110] else if c = 12 then [92, 102] else if c = 13 then [92, 114]
  else if c.toNat < 32 then [92, 117, 48, 48, hexD (c.toNat / 16), hexD (c.toNat % 16)] else [c]
/-- A text, quoted. -/
def quoteL (l : List UInt8) : List UInt8 := [34] ++ l.flatMap quoteC ++ [34]
def tellT (t : Tok) : List UInt8 := if t.kind = 3 then quoteL t.text else t.text
/-- May tokens be joined? -/
def okTs : List Tok → Bool
  | [] => true
  | [t] => okT t
  | t :: r => okT t && !(t.kind == 0) && okTs r
/-- Their text: the first, and each other one behind a blank (the end has none). -/
def restT : List Tok → List UInt8
  | [] => []
  | t :: r => (if t.kind = 0 then [] else [32]) ++ tellT t ++ restT r
def joinT : List Tok → List UInt8
  | [] => []
  | t :: r => tellT t ++ restT r
/-- Their words: none for the end. -/
def wordsT : List Tok → List (List UInt8)
  | [] => []
  | t :: r => if t.kind = 0 then wordsT r else tellT t :: wordsT r
def joinW : List (List UInt8) → List UInt8
  | [] => []
  | [x] => x
  | x :: y :: r => x ++ [32] ++ joinW (y :: r)
theorem joinW_cons (x : List UInt8) (r : List (List UInt8)) : joinW (x :: r) = x ++ (r.flatMap fun y => 32 :: y) := by
  induction r generalizing x with
  | nil => simp [joinW]
  | cons y r ih => rw [joinW, ih, List.flatMap_cons]; simp
theorem rest_words : ∀ L : List Tok, okTs L = true → restT L = (wordsT L).flatMap fun y => 32 :: y
  | [], _ => rfl
  | [t], h => by
    unfold restT wordsT
    by_cases hk : t.kind = 0
    · rw [if_pos hk, if_pos hk]
      have h' : okT t = true := h
      unfold okT at h'
      rw [if_pos hk] at h'
      have : t.text = [] := List.isEmpty_iff.1 h'
      unfold tellT restT wordsT
      rw [if_neg (by rw [hk]; decide), this]; rfl
    · rw [if_neg hk, if_neg hk]
      simp [restT, wordsT]
  | t :: u :: r, h => by
    have h' : (okT t && !(t.kind == 0) && okTs (u :: r)) = true := by simpa [okTs] using h
    simp only [Bool.and_eq_true, Bool.not_eq_true', beq_eq_false_iff_ne] at h'
    obtain ⟨⟨h1, h2⟩, h3⟩ := h'
    rw [restT, wordsT, if_neg h2, if_neg h2, rest_words (u :: r) h3, List.flatMap_cons]
    simp
theorem join_words (L : List Tok) (h : okTs L = true) : joinT L = joinW (wordsT L) := by
  cases L with
  | nil => rfl
  | cons t r =>
    by_cases hk : t.kind = 0
    · have hr : r = [] := by
        cases r with
        | nil => rfl
        | cons u r =>
          have h' : (okT t && !(t.kind == 0) && okTs (u :: r)) = true := by simpa [okTs] using h
          simp [hk] at h'
      subst hr
      have := rest_words [t] h
      rw [joinT, wordsT, if_pos hk]
      have h' : okT t = true := h
      unfold okT at h'
      rw [if_pos hk] at h'
      have ht : t.text = [] := List.isEmpty_iff.1 h'
      unfold tellT restT wordsT
      rw [if_neg (by rw [hk]; decide), ht]; rfl
    · rw [joinT, wordsT, if_neg hk, joinW_cons]
      congr 1
      cases r with
      | nil => rfl
      | cons u r =>
        have h' : (okT t && !(t.kind == 0) && okTs (u :: r)) = true := by simpa [okTs] using h
        simp only [Bool.and_eq_true] at h'
        exact rest_words (u :: r) h'.2
end Go.Proofs.YtgclnjogoghhcaaGreatDoor
namespace Go.Proofs.YtgclnjogoghhcaaGreatDoor
open Go.Lib
structure Cel where
  kind : UInt8
  name : List UInt8
  text : List UInt8
  num : Int
  many : Int
/-- May a cell be, but for its name, and for what stands in it? -/
def oneC (c : Cel) : Bool :=
  if c.kind = 0 then c.text.isEmpty && c.num == 0 && c.many == 0
  else if c.kind = 1 then c.text.isEmpty && (c.num == 0 || c.num == 1) && c.many == 0
  else if c.kind = 2 then c.text.isEmpty && c.many == 0
  else if c.kind = 3 then textB c.text && c.num == 0 && c.many == 0
  else if c.kind = 4 ∨ c.kind = 5 then nameB c.text && c.num == 0 && c.many == 0
  else if c.kind = 6 ∨ c.kind = 7 then c.text.isEmpty && c.num == 0 && decide (0 ≤ c.many)
  else false
def nestC (c : Cel) : Bool := c.kind == 6 || c.kind == 7
def amongB (l : List (List UInt8)) (n : List UInt8) : Bool := l.any fun x => x == n
/-- May an item, a member, have that name, behind those that have been? -/
def okN (isL : Bool) (names : List (List UInt8)) (n : List UInt8) : Bool := if isL then n.isEmpty else !n.isEmpty && textB n && !amongB names n
/-- How many cells so many items, members, have. -/
def kidsN (val : List Cel → Option Nat) (isL : Bool) : Nat → List (List UInt8) → List Cel → Option Nat
  | 0, _, _ => some 0
  | _ + 1, _, [] => none
  | n + 1, names, c :: r =>
    if okN isL names c.name then
      match val (c :: r) with
      | none => none
      | some k => (kidsN val isL n (c.name :: names) ((c :: r).drop k)).map (k + ·)
    else none
def headN (kids : Cel → List Cel → Option Nat) : List Cel → Option Nat
  | [] => none
  | c :: r => if oneC c then (if nestC c then (kids c r).map (1 + ·) else some 1) else none
/-- How many cells the value has that begins a list, at most so many in each other. -/
def valN : Nat → List Cel → Option Nat
  | 0 => headN fun _ _ => none
  | d + 1 => headN fun c r => kidsN (valN d) (c.kind == 6) c.many.toNat [] r
theorem kidsN_le (val : List Cel → Option Nat) (hv : ∀ l k, val l = some k → 1 ≤ k ∧ k ≤ l.length) (isL : Bool) : ∀ (n : Nat) (names : List (List UInt8)) (l : List Cel) (k : Nat), kidsN val isL n names l = some k → n ≤ k ∧ k ≤ l.length
  | 0, names, l, k, h => by
    have : k = 0 := (Option.some.inj h).symm
    omega
  | n + 1, names, [], k, h => by cases h
  | n + 1, names, c :: r, k, h => by
    rw [kidsN] at h
    split at h
    · split at h
      · cases h
      · rename_i k1 hk1
        obtain ⟨g1, g2⟩ := hv _ _ hk1
        rw [Option.map_eq_some_iff] at h
        obtain ⟨k2, hk2, rfl⟩ := h
        have := kidsN_le val hv isL n _ _ k2 hk2
        rw [List.length_drop] at this
        omega
    · cases h
theorem headN_cons (kids : Cel → List Cel → Option Nat) (c : Cel) (r : List Cel) : headN kids (c :: r) = if oneC c then (if nestC c then (kids c r).map (1 + ·) else some 1) else none := rfl
theorem valN_zero (l : List Cel) : valN 0 l = headN (fun _ _ => none) l := rfl
theorem valN_more (d : Nat) (l : List Cel) : valN (d + 1) l = headN (fun c r => kidsN (valN d) (c.kind == 6) c.many.toNat [] r) l := rfl
theorem headN_le (kids : Cel → List Cel → Option Nat) (hk : ∀ c r k, kids c r = some k → k ≤ r.length) (l : List Cel) (k : Nat) (h : headN kids l = some k) : 1 ≤ k ∧ k ≤ l.length := by
  cases l with
  | nil => cases h
  | cons c r =>
    rw [headN_cons] at h
    rw [List.length_cons]
    cases h1 : oneC c with
    | false => rw [h1] at h; cases h
    | true =>
      cases h2 : nestC c with
      | false =>
        rw [h1, h2] at h
        have : k = 1 := (Option.some.inj h).symm
        omega
      | true =>
        rw [h1, h2, if_pos rfl, if_pos rfl, Option.map_eq_some_iff] at h
        obtain ⟨k2, hk2, rfl⟩ := h
        have := hk _ _ _ hk2
        omega
theorem valN_le : ∀ (d : Nat) (l : List Cel) (k : Nat), valN d l = some k → 1 ≤ k ∧ k ≤ l.length
  | 0, l, k, h => headN_le _ (fun c r k h => by cases h) l k h
  | d + 1, l, k, h => headN_le _ (fun c r k h => (kidsN_le (valN d) (valN_le d) _ _ _ _ _ h).2) l k h
/-- More may be in each other: the same cells. -/
theorem kidsN_mono (f g : List Cel → Option Nat) (hfg : ∀ l k, f l = some k → g l = some k) (isL : Bool) : ∀ (n : Nat) (names : List (List UInt8)) (l : List Cel) (k : Nat), kidsN f isL n names l = some k → kidsN g isL n names l = some k
  | 0, names, l, k, h => h
  | n + 1, names, [], k, h => h
  | n + 1, names, c :: r, k, h => by
    rw [kidsN] at h ⊢
    split at h
    · rename_i hok
      rw [if_pos hok]
      split at h
      · cases h
      · rename_i k1 hk1
        rw [hfg _ _ hk1]
        rw [Option.map_eq_some_iff] at h
        obtain ⟨k2, hk2, rfl⟩ := h
        show (kidsN g isL n _ _).map _ = _
        rw [kidsN_mono f g hfg isL n _ _ k2 hk2]; rfl
    · cases h
theorem headN_mono (f g : Cel → List Cel → Option Nat) (hfg : ∀ c r k, f c r = some k → g c r = some k) (l : List Cel) (k : Nat) (h : headN f l = some k) : headN g l = some k := by
  cases l with
  | nil => cases h
  | cons c r =>
    rw [headN_cons] at h ⊢
    cases h1 : oneC c with
    | false => rw [h1] at h; cases h
    | true =>
      cases h2 : nestC c with
      | false => rw [h1, h2] at h; exact h
      | true =>
        rw [h1, h2, if_pos rfl, if_pos rfl, Option.map_eq_some_iff] at h
        obtain ⟨k2, hk2, rfl⟩ := h
        rw [if_pos rfl, if_pos rfl, hfg _ _ _ hk2]; rfl
theorem valN_succ : ∀ (d : Nat) (l : List Cel) (k : Nat), valN d l = some k → valN (d + 1) l = some k
  | 0, l, k, h => headN_mono _ _ (fun c r k h => by cases h) l k h
  | d + 1, l, k, h => headN_mono _ _ (fun c r k h => kidsN_mono (valN d) (valN (d + 1)) (valN_succ d) _ _ _ _ _ h) l k h
theorem valN_mono {d e : Nat} (h : d ≤ e) (l : List Cel) (k : Nat) (hv : valN d l = some k) : valN e l = some k := by
  induction h with
  | refl => exact hv
  | step _ ih => exact valN_succ _ _ _ ih
/-- Are cells a value? -/
def mayB (V : List Cel) : Bool := decide (0 < V.length) && decide (V.length ≤ 2048) && (V.headD ⟨0, [0], [], 0, 0⟩).name.isEmpty && (valN 16 V == some V.length)
def plainB (V : List Cel) : Bool := mayB V && V.all fun c => !(c.kind == 4 || c.kind == 5)
/-- Where the value ends that begins at a place; below 0: there is none. -/
def endI (V : List Cel) (at_ d : Nat) : Int := match valN d (V.drop at_) with | none => -1 | some k => ((at_ + k : Nat) : Int)
end Go.Proofs.YtgclnjogoghhcaaGreatDoor
namespace Go.Proofs.YtgclnjogoghhcaaGreatDoor
open Go.Lib
def blankJ (c : UInt8) : Bool := c == 32 || c == 9 || c == 13 || c == 10
def blJ (l : List UInt8) : List UInt8 := l.dropWhile blankJ
/-- A text that has to stand next: what stands behind it. -/
def tkJ (what l : List UInt8) : Option (List UInt8) := if what.isPrefixOf l then some (l.drop what.length) else none
/-- Behind a part of a number that has digits. -/
def partJ (mark sign : UInt8 → Bool) : List UInt8 → Option (List UInt8)
  | [] => none
  | c :: r => if mark c then
      (let r1 := if (r.head?.map sign).getD false then r.tail else r
       if (r1.takeWhile isDig).isEmpty then none else some (r1.dropWhile isDig)) else none
/-- The digits ahead of a point. -/
def wholeJ (l : List UInt8) : List UInt8 := if l.head? == some 48 then [48] else l.takeWhile isDig
def pointJ : List UInt8 → Option (List UInt8) := partJ (fun c => c == 46) (fun _ => false)
def powerJ : List UInt8 → Option (List UInt8) := partJ (fun c => c == 101 || c == 69) (fun c => c == 43 || c == 45)
def numJ (l : List UInt8) : Except Int (Int × List UInt8) :=
  let d := wholeJ (body l)
  if d.isEmpty then .error 40 else
  let l2 := (body l).drop d.length
  let l3 := (pointJ l2).getD l2
  let l4 := (powerJ l3).getD l3
  let t := (if below l then [45] else []) ++ d
  if (pointJ l2).isSome || (powerJ l3).isSome || rdE t != 0 then .error 41 else .ok (rdV t, l4)
def hexJ (c : UInt8) : Option Nat :=
  if 48 ≤ c.toNat ∧ c.toNat ≤ 57 then some (c.toNat - 48) else if 97 ≤ c.toNat ∧ c.toNat ≤ 102 then some (c.toNat - 87)
  else if 65 ≤ c.toNat ∧ c.toNat ≤ 70 then some (c.toNat - 55) else none
/-- So many digits to the base of 16, behind a number. -/
def hexsJ : Nat → Nat → List UInt8 → Option (Nat × List UInt8)
  | 0, n, l => some (n, l)
  | _ + 1, _, [] => none
  | k + 1, n, c :: r => match hexJ c with
    | none => none
    | some d => hexsJ k (n * 16 + d) r
/-- What the letters behind a backslash tell that tell one byte. -/
def letJ (c : UInt8) : Option Nat :=
  if c = 34 then some 34 else if c = 92 then some 92 else if c = 47 then some 47 else if c = 98 then some 8 else if c = 102 then some 12
  else if c = 110 then some 10 else if c = 114 then some 13 else if c = 116 then some 9 else none
/-- Behind a high half: the low one. -/
def lowJ (n : Nat) (l : List UInt8) : Option (Nat × List UInt8) := match tkJ [92, 117] l with
  | none => none
  | some r => match hexsJ 4 0 r with
    | none => none
    | some (m, t) => if m < 56320 ∨ 57343 < m then none else some (65536 + (n - 55296) * 1024 + (m - 56320), t)
def escJ : List UInt8 → Option (Nat × List UInt8)
  | [] => none
  | c :: r => match letJ c with
    | some p => some (p, r)
    | none => if c ≠ 117 then none else match hexsJ 4 0 r with
      | none => none
      | some (n, t) => if 56320 ≤ n ∧ n ≤ 57343 then none else if 55296 ≤ n ∧ n ≤ 56319 then lowJ n t else some (n, t)
/-- Behind the first quote: the code points, and what stands behind the last quote. -/
def strGo : Nat → List UInt8 → Option (List Nat × List UInt8)
  | 0, _ => none
  | _ + 1, [] => none
  | f + 1, c :: r => if c = 34 then some ([], r) else if c.toNat < 32 then none
    else if c = 92 then (match escJ r with
      | none => none
      | some (p, t) => (strGo f t).map fun x => (p :: x.1, x.2))
    else (strGo f ((c :: r).drop (decodeL (c :: r)).2)).map fun x => ((decodeL (c :: r)).1 :: x.1, x.2)
def strJ (l : List UInt8) : Option (List UInt8 × List UInt8) := match tkJ [34] l with
  | none => none
  | some r => (strGo r.length r).map fun x => (x.1.flatMap encN, x.2)
/-- A member's name and the colon: the name, what stands behind. -/
def memJ (nm : List (List UInt8)) (l : List UInt8) : Except Int (List UInt8 × List UInt8) := match strJ l with
  | none => .error 40
  | some (s, t) => if nm.contains s then .error 42 else if s.isEmpty then .error 8 else match tkJ [58] (blJ t) with
    | none => .error 40
    | some r => .ok (s, r)
/-- The items, the members, until the bracket: how many, what stands behind it, the cells. -/
def itemsJ (val : List UInt8 → List UInt8 → List Cel → Except Int (List UInt8 × List Cel)) (isO : Bool) : Nat → Nat → List (List UInt8) → List UInt8 → List Cel → Except Int (Nat × List UInt8 × List Cel)
  | 0, _, _, _, _ => .error 40
  | f + 1, n, nm, l, out => match tkJ [if isO then 125 else 93] l with
    | some r => .ok (n, r, out)
    | none => match (if n = 0 then some l else (tkJ [44] l).map blJ) with
      | none => .error 40
      | some l1 => match (if isO then memJ nm l1 else .ok ([], l1)) with
        | .error e => .error e
        | .ok (s, l2) => match val s l2 out with
          | .error e => .error e
          | .ok (l3, out2) => itemsJ val isO f (n + 1) (if isO then s :: nm else nm) (blJ l3) out2
def begJ (c : UInt8) : Bool := c == 123 || c == 91 || c == 34 || c == 116 || c == 102 || c == 110 || c == 45 || isDig c
def manyAt (k n : Nat) (out : List Cel) : List Cel := out.modify k fun c => { c with many := (n : Int) }
/-- A value that has nothing under it. -/
def leafJ (name : List UInt8) (c : UInt8) (l : List UInt8) (out : List Cel) : Except Int (List UInt8 × List Cel) :=
  if c = 34 then (match strJ l with | none => .error 40 | some (s, t) => .ok (t, out ++ [⟨3, name, s, 0, 0⟩]))
  else if c = 116 then (match tkJ [116, 114, 117, 101] l with | none => .error 40 | some t => .ok (t, out ++ [⟨1, name, [], 1, 0⟩]))
  else if c = 102 then (match tkJ [102, 97, 108, 115, 101] l with | none => .error 40 | some t => .ok (t, out ++ [⟨1, name, [], 0, 0⟩]))
  else if c = 110 then (match tkJ [110, 117, 108, 108] l with | none => .error 40 | some t => .ok (t, out ++ [⟨0, name, [], 0, 0⟩]))
  else (match numJ l with | .error e => .error e | .ok (n, t) => .ok (t, out ++ [⟨2, name, [], n, 0⟩]))
/-- A value: so many brackets more may be opened. -/
def valJ : Nat → List UInt8 → List UInt8 → List Cel → Except Int (List UInt8 × List Cel)
  | d, name, l, out => match blJ l with
    | [] => .error 40
    | c :: r => if !begJ c then .error 40 else if out.length = 2048 then .error 4 else
      if c = 123 ∨ c = 91 then (match d with
        | 0 => .error 30
        | d + 1 => match itemsJ (valJ d) (c == 123) (r.length + 1) 0 [] (blJ r) (out ++ [⟨if c = 123 then 7 else 6, name, [], 0, 0⟩]) with
          | .error e => .error e
          | .ok (n, t, out2) => .ok (t, manyAt out.length n out2))
      else leafJ name c (c :: r) out
/-- What json.Read tells of bytes that are a text. -/
def readJ (l : List UInt8) : Except Int (List Cel) := match valJ 16 [] l [] with
  | .error e => .error e
  | .ok (t, out) => if (blJ t).isEmpty then .ok out else .error 40
end Go.Proofs.YtgclnjogoghhcaaGreatDoor
namespace Go.Proofs.YtgclnjogoghhcaaGreatDoor
open Go.Lib
def hidC (c : UInt8) : Bool := c == 32 || c == 9 || c == 13 || c == 10 || c == 44
def bomL : List UInt8 := [239, 187, 191]
/-- What counts for nothing, dropped (but for remarks). -/
def hidG : Nat → List UInt8 → List UInt8
  | 0, l => l
  | _ + 1, [] => []
  | f + 1, c :: r => if hidC c then hidG f r else if bomL.isPrefixOf (c :: r) then hidG f ((c :: r).drop 3) else c :: r
def hid0 (l : List UInt8) : List UInt8 := hidG l.length l
def lineC (c : UInt8) : Bool := c != 10 && c != 13
def badC (c : UInt8) : Bool := decide (c.toNat < 32) && c != 9
/-- What counts for nothing, dropped; false: behind it stands what may not be. -/
def skipG : Nat → List UInt8 → List UInt8 × Bool
  | 0, l => (l, true)
  | f + 1, l => match hid0 l with
    | [] => ([], true)
    | c :: r => if c = 35 then
        (let ln := (c :: r).takeWhile lineC
         if ln.any badC then ((c :: r).drop (ln.takeWhile fun x => !badC x).length, false) else skipG f ((c :: r).dropWhile lineC))
      else (c :: r, true)
def skip0 (l : List UInt8) : List UInt8 × Bool := skipG (l.length + 1) l
def nameT (l : List UInt8) : Option (List UInt8) := let a := l.takeWhile nameC; if nameB a then some a else none
def numTk (l : List UInt8) : Option (List UInt8) :=
  let d := (body l).takeWhile isDig
  let r := (body l).dropWhile isDig
  if okDigits d && !((r.head?.map fun c => nameC c || c == 46).getD false) then some ((if below l then [45] else []) ++ d) else none
/-- Behind a quote, up to the next one that no backslash stands ahead of: the bytes, tabs as \\t; how many. -/
def scanT : Bool → List UInt8 → Option (List UInt8 × Nat)
  | _, [] => none
  | q, c :: r => if !q && c == 34 then some ([], 1) else
    (scanT (!q && c == 92) r).map fun x => ((if c == 9 && !q then [92, 116] else [c]) ++ x.1, x.2 + 1)
/-- What json.Read tells of any bytes. -/
def jsonT (l : List UInt8) : Except Int (List Cel) := if 16384 < l.length then .error 4 else if !validD l then .error 10 else readJ l
def txtT (l : List UInt8) : Option (List UInt8 × Nat) := match l with
  | [] => none
  | c :: r => if c ≠ 34 ∨ [34, 34, 34].isPrefixOf (c :: r) then none else match scanT false r with
    | none => none
    | some (b, n) => match jsonT (34 :: (b ++ [34])) with
      | .error _ => none
      | .ok v => some ((v.headD ⟨0, [], [], 0, 0⟩).text, n + 1)
def punT (l : List UInt8) : Option (List UInt8) := if [46, 46, 46].isPrefixOf l then some [46, 46, 46] else match l with
  | [] => none
  | c :: _ => if marksL.contains c then some [c] else none
/-- The token that stands at the beginning: its kind, its text, how many bytes it has. -/
def tokG (l : List UInt8) : Option (UInt8 × List UInt8 × Nat) := match nameT l with
  | some a => some (1, a, a.length)
  | none => match numTk l with
    | some a => some (2, a, a.length)
    | none => match txtT l with
      | some (a, n) => some (3, a, n)
      | none => (punT l).map fun a => (4, a, a.length)
/-- The tokens, so many at most; or the error, and where. -/
def lexG : Nat → Nat → List UInt8 → List Tok → Except (Int × Nat) (List Tok)
  | k, at_, l, acc => match skip0 l with
    | (l1, ok) =>
      let at1 := at_ + (l.length - l1.length)
      if !ok then .error (170, at1) else if l1.isEmpty then .ok (acc ++ [⟨0, [], (at1 : Int)⟩]) else match k with
        | 0 => .error (171, at1)
        | k + 1 => match tokG l1 with
          | none => .error (170, at1)
          | some (kd, tx, n) => lexG k (at1 + n) (l1.drop n) (acc ++ [⟨kd, tx, (at1 : Int)⟩])
def lex0 (l : List UInt8) : Except (Int × Nat) (List Tok) := if 16384 < l.length then .error (4, 0) else if !validD l then .error (10, 0) else lexG 1024 0 l []
end Go.Proofs.YtgclnjogoghhcaaGreatDoor
namespace Go.Proofs.YtgclnjogoghhcaaGreatDoor
/-- How the rounds stand: so many to come, such names, so many cells taken. -/
def KS (V : List Cel) (d1 k : Nat) (isL : Bool) (o : Option Nat) (g : Nat) (nm : List (List UInt8)) (u : Nat) : Prop := (kidsN (valN d1) isL g nm (V.drop (k + 1 + u))).map (u + ·) = o
theorem KS.start {V : List Cel} {d1 k : Nat} {isL : Bool} {o : Option Nat} {g : Nat} (h : kidsN (valN d1) isL g [] (V.drop (k + 1)) = o) : KS V d1 k isL o g [] 0 := by
  unfold KS
  rw [Nat.add_zero, ← h]
  cases kidsN (valN d1) isL g [] (V.drop (k + 1)) with
  | none => rfl
  | some n => show some (0 + n) = some n; rw [Nat.zero_add]
theorem KS.done {V : List Cel} {d1 k : Nat} {isL : Bool} {o : Option Nat} {nm : List (List UInt8)} {u : Nat} (h : KS V d1 k isL o 0 nm u) : o = some u := by
  unfold KS at h
  rw [← h]
  cases hd : V.drop (k + 1 + u) <;> rfl
theorem KS.out_ {V : List Cel} {d1 k : Nat} {isL : Bool} {o : Option Nat} {g : Nat} {nm : List (List UInt8)} {u : Nat} (h : KS V d1 k isL o (g + 1) nm u) (hp : V.length ≤ k + 1 + u) : o = none := by
  unfold KS at h
  rw [List.drop_of_length_le hp] at h
  rw [← h]; rfl
theorem KS.bad {V : List Cel} {d1 k : Nat} {isL : Bool} {o : Option Nat} {g : Nat} {nm : List (List UInt8)} {u p : Nat} (h : KS V d1 k isL o (g + 1) nm u) (hpu : p = k + 1 + u) (hp : p < V.length) (hok : okN isL nm V[p].name = false) : o = none := by
  subst hpu
  unfold KS at h
  rw [List.drop_eq_getElem_cons hp, kidsN, hok] at h
  rw [← h]; rfl
theorem KS.fail {V : List Cel} {d1 k : Nat} {isL : Bool} {o : Option Nat} {g : Nat} {nm : List (List UInt8)} {u p : Nat} (h : KS V d1 k isL o (g + 1) nm u) (hpu : p = k + 1 + u) (hp : p < V.length) (hok : okN isL nm V[p].name = true) (hv : valN d1 (V.drop p) = none) : o = none := by
  subst hpu
  unfold KS at h
  rw [List.drop_eq_getElem_cons hp, kidsN, hok, ← List.drop_eq_getElem_cons hp, hv] at h
  rw [← h]; rfl
theorem KS.next {V : List Cel} {d1 k : Nat} {isL : Bool} {o : Option Nat} {g : Nat} {nm : List (List UInt8)} {u p n : Nat} (h : KS V d1 k isL o (g + 1) nm u) (hpu : p = k + 1 + u) (hp : p < V.length) (hok : okN isL nm V[p].name = true) (hv : valN d1 (V.drop p) = some n) : KS V d1 k isL o g (V[p].name :: nm) (u + n) := by
  subst hpu
  unfold KS at h ⊢
  rw [List.drop_eq_getElem_cons hp, kidsN, hok, ← List.drop_eq_getElem_cons hp, hv] at h
  rw [← h]
  show _ = Option.map (u + ·) ((kidsN (valN d1) isL g (V[k + 1 + u].name :: nm) ((V.drop (k + 1 + u)).drop n)).map (n + ·))
  rw [List.drop_drop, show k + 1 + (u + n) = k + 1 + u + n from by omega, Option.map_map]
  congr 1
  funext x
  show u + n + x = u + (n + x)
  omega
theorem endI_none {V : List Cel} {p d : Nat} (h : valN d (V.drop p) = none) : endI V p d = -1 := by unfold endI; rw [h]
theorem endI_some {V : List Cel} {p d n : Nat} (h : valN d (V.drop p) = some n) : endI V p d = ((p + n : Nat) : Int) := by unfold endI; rw [h]
end Go.Proofs.YtgclnjogoghhcaaGreatDoor
namespace Go.Proofs.YtgclnjogoghhcaaGreatDoor
open Go.Lib
def litJ (c : Cel) : List UInt8 := if c.kind = 0 then [110, 117, 108, 108] else if c.kind = 1 then (if c.num = 1 then [116, 114, 117, 101] else [102, 97, 108, 115, 101]) else if c.kind = 2 then Lib.itoa c.num else quoteL c.text
def preJ (isO first : Bool) (l : List Cel) : List UInt8 := (if first then [] else [44]) ++ (if isO then quoteL (l.headD ⟨0, [], [], 0, 0⟩).name ++ [58] else [])
/-- The JSON of so many items, members. -/
def kidsJ (val : List Cel → Option Nat) (txt : List Cel → List UInt8) (isO : Bool) : Nat → Bool → List Cel → List UInt8
  | 0, _, _ => []
  | n + 1, first, l => preJ isO first l ++ (txt l ++ kidsJ val txt isO n false (l.drop ((val l).getD 0)))
def headJ (kids : Cel → List Cel → List UInt8) : List Cel → List UInt8
  | [] => []
  | c :: r => if nestC c then (if c.kind == 6 then [91] else [123]) ++ (kids c r ++ (if c.kind == 6 then [93] else [125])) else litJ c
/-- The JSON of the value that begins a list. -/
def textJ : Nat → List Cel → List UInt8
  | 0 => headJ fun _ _ => []
  | d + 1 => headJ fun c r => kidsJ (valN d) (textJ d) (!(c.kind == 6)) c.many.toNat true r
theorem headJ_cons (kids : Cel → List Cel → List UInt8) (c : Cel) (r : List Cel) : headJ kids (c :: r) = if nestC c then (if c.kind == 6 then [91] else [123]) ++ (kids c r ++ (if c.kind == 6 then [93] else [125])) else litJ c := rfl
theorem textJ_zero (l : List Cel) : textJ 0 l = headJ (fun _ _ => []) l := rfl
theorem textJ_more (d : Nat) (l : List Cel) : textJ (d + 1) l = headJ (fun c r => kidsJ (valN d) (textJ d) (!(c.kind == 6)) c.many.toNat true r) l := rfl
theorem quoteC_len' (c : UInt8) : (quoteC c).length ≤ 6 := by
  unfold quoteC
  repeat' split
  all_goals simp
/-- Cells whose names and texts are short. -/
def ShortV (V : List Cel) : Prop := ∀ c ∈ V, c.name.length ≤ 3000 ∧ c.text.length ≤ 3000 ∧ R c.num ∧ R c.many
theorem ShortV.drop {V : List Cel} (h : ShortV V) (n : Nat) : ShortV (V.drop n) := fun c hc => h c (List.mem_of_mem_drop hc)
/-- One round: where the next one begins. -/
theorem KS.step {V : List Cel} {d1 k : Nat} {isL : Bool} {n : Nat} {g : Nat} {nm : List (List UInt8)} {u p : Nat} (h : KS V d1 k isL (some n) (g + 1) nm u) (hpu : p = k + 1 + u) : ∃ (hp : p < V.length) (n1 : Nat), valN d1 (V.drop p) = some n1 ∧ KS V d1 k isL (some n) g (V[p].name :: nm) (u + n1) := by
  have hp : p < V.length := by
    rcases Nat.lt_or_ge p V.length with h' | h'
    · exact h'
    · have := h.out_ (by omega); cases this
  have hok : okN isL nm V[p].name = true := by
    cases ho : okN isL nm V[p].name with
    | true => rfl
    | false => have := h.bad hpu hp ho; cases this
  cases hv : valN d1 (V.drop p) with
  | none => have := h.fail hpu hp hok hv; cases this
  | some n1 => exact ⟨hp, n1, rfl, h.next hpu hp hok hv⟩
end Go.Proofs.YtgclnjogoghhcaaGreatDoor
namespace Go.Proofs.YtgclnjogoghhcaaGreatDoor
open Go.Lib
/-- What is left of a text is a text, and no longer. -/
def Cut (l t : List UInt8) : Prop := t.length ≤ l.length ∧ (validD l = true → validD t = true)
theorem Cut.refl (l : List UInt8) : Cut l l := ⟨Nat.le_refl _, id⟩
theorem Cut.trans {l t u : List UInt8} (h : Cut l t) (h' : Cut t u) : Cut l u := ⟨Nat.le_trans h'.1 h.1, fun x => h'.2 (h.2 x)⟩
theorem decode_ascii (c : UInt8) (l : List UInt8) (h : c.toNat < 128) : decodeL (c :: l) = (c.toNat, 1) := by
  have ho : oneB (c :: l) 1 = true := by
    unfold oneB
    rw [decide_eq_true (by simp), List.take_succ_cons, List.take_zero]
    simp only [Bool.true_and, Bool.and_eq_true, beq_iff_eq, numN]
    refine ⟨by simp only [isPt, decide_eq_true_eq]; omega, ?_⟩
    unfold encN
    rw [if_pos h, toN rfl]
  have := decode_one _ 1 ho
  rw [this]; rfl
theorem valid_cons (c : UInt8) (l : List UInt8) (h : c.toNat < 128) : validD (c :: l) = validD l := by
  rw [valid_step _ (by simp)]
  unfold wellB
  rw [decode_ascii c l h]
  rw [decide_eq_false (by intro h1; have := h1.1; simp at this; omega)]
  rfl
theorem cut_cons (c : UInt8) (l : List UInt8) (h : c.toNat < 128) : Cut (c :: l) l := ⟨by simp, fun x => by rw [valid_cons c l h] at x; exact x⟩
theorem cut_drop : ∀ (n : Nat) (l : List UInt8), (∀ c ∈ l.take n, c.toNat < 128) → Cut l (l.drop n)
  | 0, l, _ => by rw [List.drop_zero]; exact Cut.refl _
  | n + 1, [], _ => by rw [List.drop_nil]; exact Cut.refl _
  | n + 1, c :: l, h => by
    rw [List.drop_succ_cons]
    exact (cut_cons c l (h c (by simp))).trans (cut_drop n l fun x hx => h x (by simp [hx]))
theorem cut_while (p : UInt8 → Bool) (hp : ∀ c, p c = true → c.toNat < 128) : ∀ l : List UInt8, Cut l (l.dropWhile p)
  | [] => Cut.refl _
  | c :: l => by
    rw [List.dropWhile_cons]
    by_cases h : p c = true
    · rw [if_pos h]; exact (cut_cons c l (hp c h)).trans (cut_while p hp l)
    · rw [if_neg h]; exact Cut.refl _
theorem dig_ascii (c : UInt8) (h : isDig c = true) : c.toNat < 128 := by unfold isDig at h; rw [decide_eq_true_eq] at h; omega
theorem blank_ascii (c : UInt8) (h : blankJ c = true) : c.toNat < 128 := by
  unfold blankJ at h
  simp only [Bool.or_eq_true, beq_iff_eq] at h
  rcases h with ((h | h) | h) | h <;> (subst h; decide)
theorem cut_bl (l : List UInt8) : Cut l (blJ l) := cut_while _ blank_ascii l
theorem cut_tk (what l t : List UInt8) (hw : ∀ c ∈ what, c.toNat < 128) (h : tkJ what l = some t) : Cut l t ∧ t.length + what.length = l.length := by
  unfold tkJ at h
  split at h
  · rename_i hp
    injection h with h
    obtain ⟨u, rfl⟩ := List.isPrefixOf_iff_prefix.1 hp
    rw [List.drop_left] at h
    subst h
    refine ⟨?_, by rw [List.length_append]; omega⟩
    have := cut_drop what.length (what ++ u) (by rw [List.take_left]; exact hw)
    rw [List.drop_left] at this
    exact this
  · cases h
theorem cut_part (mark sign : UInt8 → Bool) (hm : ∀ c, mark c = true → c.toNat < 128) (hs : ∀ c, sign c = true → c.toNat < 128) (l t : List UInt8) (h : partJ mark sign l = some t) : Cut l t := by
  cases l with
  | nil => rw [partJ] at h; cases h
  | cons c r =>
    rw [partJ] at h
    split at h
    · rename_i hc
      refine (cut_cons c r (hm c hc)).trans ?_
      simp only at h
      split at h
      · rename_i hg
        split at h
        · cases h
        · injection h with h
          subst h
          cases r with
          | nil => simp at hg
          | cons d r2 =>
            refine (cut_cons d r2 (hs d (by simpa using hg))).trans ?_
            exact cut_while _ dig_ascii _
      · split at h
        · cases h
        · injection h with h
          subst h
          exact cut_while _ dig_ascii _
    · cases h
theorem cut_part' (mark sign : UInt8 → Bool) (hm : ∀ c, mark c = true → c.toNat < 128) (hs : ∀ c, sign c = true → c.toNat < 128) (l : List UInt8) : Cut l ((partJ mark sign l).getD l) := by
  cases h : partJ mark sign l with
  | none => exact Cut.refl _
  | some t => exact cut_part mark sign hm hs l t h
theorem cut_point (l : List UInt8) : Cut l ((pointJ l).getD l) := cut_part' _ _ (fun c h => by rw [beq_iff_eq] at h; subst h; decide) (fun c h => by cases h) l
theorem cut_power (l : List UInt8) : Cut l ((powerJ l).getD l) := cut_part' _ _
  (fun c h => by simp only [Bool.or_eq_true, beq_iff_eq] at h; rcases h with h | h <;> (subst h; decide))
  (fun c h => by simp only [Bool.or_eq_true, beq_iff_eq] at h; rcases h with h | h <;> (subst h; decide)) l
theorem cut_body (l : List UInt8) : Cut l (body l) := by
  unfold body
  split
  · rename_i h
    cases l with
    | nil => exact Cut.refl _
    | cons c r =>
      unfold below at h
      simp only [beq_iff_eq] at h
      subst h
      exact cut_cons _ r (by decide)
  · exact Cut.refl _
theorem take_while_all (p : UInt8 → Bool) : ∀ (l : List UInt8), ∀ c ∈ l.takeWhile p, p c = true
  | [], c, h => by simp at h
  | d :: l, c, h => by
    rw [List.takeWhile_cons] at h
    split at h
    · rename_i hd
      rcases List.mem_cons.1 h with h | h
      · rw [h]; exact hd
      · exact take_while_all p l c h
    · cases h
theorem whole_pre (l : List UInt8) : l.take (wholeJ l).length = wholeJ l ∧ ∀ c ∈ wholeJ l, c.toNat < 128 := by
  unfold wholeJ
  split
  · rename_i h
    cases l with
    | nil => simp at h
    | cons c r =>
      simp only [List.head?_cons, beq_iff_eq, Option.some.injEq] at h
      subst h
      refine ⟨by simp, fun c hc => ?_⟩
      rw [List.mem_singleton] at hc; subst hc; decide
  · refine ⟨?_, fun c hc => dig_ascii c (take_while_all _ _ c hc)⟩
    conv => lhs; arg 2; rw [← List.takeWhile_append_dropWhile (p := isDig) (l := l)]
    exact List.take_left
theorem ite_ok {α : Type} {c : Prop} [Decidable c] {a : Int} {x y : α} (h : (if c then (Except.error a : Except Int α) else .ok x) = .ok y) : x = y := by
  by_cases hc : c
  · rw [if_pos hc] at h; cases h
  · rw [if_neg hc] at h; injection h
theorem cut_num (l : List UInt8) (n : Int) (t : List UInt8) (h : numJ l = .ok (n, t)) : Cut l t ∧ t.length < l.length := by
  unfold numJ at h
  simp only at h
  split at h
  · cases h
  · rename_i hd
    · have h := ite_ok h
      injection h with h1 h2
      subst h2
      obtain ⟨g1, g2⟩ := whole_pre (body l)
      have c1 := cut_body l
      have c2 : Cut (body l) ((body l).drop (wholeJ (body l)).length) := cut_drop _ _ (by rw [g1]; exact g2)
      have c3 := cut_point ((body l).drop (wholeJ (body l)).length)
      have c4 := cut_power ((pointJ ((body l).drop (wholeJ (body l)).length)).getD ((body l).drop (wholeJ (body l)).length))
      refine ⟨((c1.trans c2).trans c3).trans c4, ?_⟩
      have hl : 0 < (wholeJ (body l)).length := by
        cases hw : wholeJ (body l) with
        | nil => rw [hw] at hd; exact absurd rfl hd
        | cons a b => simp
      have hlt : (wholeJ (body l)).length ≤ (body l).length := by
        have := congrArg List.length g1
        rw [List.length_take] at this
        omega
      have e1 := c1.1
      have e2 : ((body l).drop (wholeJ (body l)).length).length = (body l).length - (wholeJ (body l)).length := List.length_drop
      have e3 := c3.1
      have e4 := c4.1
      omega
theorem hexJ_ascii (c : UInt8) (d : Nat) (h : hexJ c = some d) : c.toNat < 128 ∧ d < 16 := by
  unfold hexJ at h
  split at h
  · injection h with h; omega
  · split at h
    · injection h with h; omega
    · split at h
      · injection h with h; omega
      · cases h
theorem cut_hexs : ∀ (k n : Nat) (l : List UInt8) (m : Nat) (t : List UInt8), hexsJ k n l = some (m, t) → Cut l t ∧ t.length + k = l.length
  | 0, n, l, m, t, h => by
    rw [hexsJ] at h
    injection h with h; injection h with h1 h2
    subst h2
    exact ⟨Cut.refl _, by omega⟩
  | k + 1, n, [], m, t, h => by rw [hexsJ] at h; cases h
  | k + 1, n, c :: r, m, t, h => by
    rw [hexsJ] at h
    cases hx : hexJ c with
    | none => rw [hx] at h; cases h
    | some d =>
      rw [hx] at h
      have ⟨h1, h2⟩ := cut_hexs k _ r m t h
      exact ⟨(cut_cons c r (hexJ_ascii c d hx).1).trans h1, by rw [List.length_cons]; omega⟩
theorem hexs_lt : ∀ (k n : Nat) (l : List UInt8) (m : Nat) (t : List UInt8) (B : Nat), hexsJ k n l = some (m, t) → n < B → m < B * 16 ^ k
  | 0, n, l, m, t, B, h, hn => by
    rw [hexsJ] at h
    injection h with h; injection h with h1 h2
    omega
  | k + 1, n, [], m, t, B, h, hn => by rw [hexsJ] at h; cases h
  | k + 1, n, c :: r, m, t, B, h, hn => by
    rw [hexsJ] at h
    cases hx : hexJ c with
    | none => rw [hx] at h; cases h
    | some d =>
      rw [hx] at h
      have hd := (hexJ_ascii c d hx).2
      have := hexs_lt k (n * 16 + d) r m t (B * 16) h (by omega)
      rw [Nat.pow_succ, Nat.mul_comm (16 ^ k) 16, ← Nat.mul_assoc]; exact this
theorem letJ_ascii (c : UInt8) (p : Nat) (h : letJ c = some p) : c.toNat < 128 ∧ isPt p = true := by
  have := (by decide +kernel : ∀ i : Fin 256, ∀ q ∈ letJ (UInt8.ofNat i.val), (UInt8.ofNat i.val).toNat < 128 ∧ isPt q = true) ⟨c.toNat, UInt8.toNat_lt c⟩ p
  simp only [UInt8.ofNat_toNat] at this
  exact this h
/-- Behind an escape: a text, and a code point. -/
theorem cut_esc (l : List UInt8) (p : Nat) (t : List UInt8) (h : escJ l = some (p, t)) : Cut l t ∧ t.length < l.length ∧ isPt p = true := by
  cases l with
  | nil => rw [escJ] at h; cases h
  | cons c r =>
    rw [escJ] at h
    cases hl : letJ c with
    | some q =>
      rw [hl] at h
      injection h with h; injection h with h1 h2
      subst h1; subst h2
      obtain ⟨g1, g2⟩ := letJ_ascii c q hl
      exact ⟨cut_cons c r g1, by simp, g2⟩
    | none =>
      rw [hl] at h
      simp only at h
      split at h
      · cases h
      · rename_i hu
        have hu2 : c = 117 := by simpa using hu
        subst hu2
        have k0 := cut_cons 117 r (by decide)
        cases hx : hexsJ 4 0 r with
        | none => rw [hx] at h; cases h
        | some nt =>
          obtain ⟨n, t1⟩ := nt
          rw [hx] at h
          simp only at h
          obtain ⟨k1, k2⟩ := cut_hexs 4 0 r n t1 hx
          have hn := hexs_lt 4 0 r n t1 1 hx (by decide)
          split at h
          · cases h
          · rename_i hlo
            split at h
            · rename_i hhi
              unfold lowJ at h
              cases ht : tkJ [92, 117] t1 with
              | none => rw [ht] at h; cases h
              | some t2 =>
                rw [ht] at h
                simp only at h
                obtain ⟨k3, k4⟩ := cut_tk _ _ _ (by decide) ht
                cases hx2 : hexsJ 4 0 t2 with
                | none => rw [hx2] at h; cases h
                | some mt =>
                  obtain ⟨m, t3⟩ := mt
                  rw [hx2] at h
                  simp only at h
                  obtain ⟨k5, k6⟩ := cut_hexs 4 0 t2 m t3 hx2
                  split at h
                  · cases h
                  · rename_i hm
                    injection h with h; injection h with h1 h2
                    subst h1; subst h2
                    refine ⟨(((k0.trans k1).trans k3).trans k5), by simp only [List.length_cons, List.length_nil] at *; omega, ?_⟩
                    simp only [isPt, decide_eq_true_eq]
                    omega
            · rename_i hhi
              injection h with h; injection h with h1 h2
              subst h1; subst h2
              refine ⟨k0.trans k1, by simp only [List.length_cons] at *; omega, ?_⟩
              simp only [isPt, decide_eq_true_eq]
              simp at hn
              omega
theorem decode_pt (l : List UInt8) (hne : l ≠ []) (hw : wellB l = true) : isPt (decodeL l).1 = true ∧ 1 ≤ (decodeL l).2 ∧ (decodeL l).2 ≤ l.length ∧ encN (decodeL l).1 = l.take (decodeL l).2 := by
  have hv : ¬ ((decodeL l).1 = 65533 ∧ (decodeL l).2 = 1) := by
    simp only [wellB, Bool.not_eq_true', decide_eq_false_iff_not] at hw
    exact hw
  obtain ⟨g1, g2, g3, g4⟩ := one_decode l hne hv
  unfold oneB at g1
  simp only [Bool.and_eq_true, decide_eq_true_eq, beq_iff_eq] at g1
  rw [g2] at g1
  exact ⟨g1.2.1, g3, g1.1, g1.2.2⟩
/-- Behind a text's last quote: a text; and its code points are some. -/
theorem cut_go : ∀ (f : Nat) (l : List UInt8) (P : List Nat) (t : List UInt8), validD l = true → strGo f l = some (P, t) → Cut l t ∧ t.length + P.length < l.length ∧ ∀ p ∈ P, isPt p = true
  | 0, l, P, t, _, h => by rw [strGo] at h; cases h
  | f + 1, [], P, t, _, h => by rw [strGo] at h; cases h
  | f + 1, c :: r, P, t, hv, h => by
    rw [strGo] at h
    split at h
    · rename_i hc
      injection h with h; injection h with h1 h2
      subst h1; subst h2; subst hc
      exact ⟨cut_cons _ _ (by decide), by simp, fun p hp => by cases hp⟩
    · split at h
      · cases h
      · split at h
        · rename_i hc
          subst hc
          cases he : escJ r with
          | none => rw [he] at h; cases h
          | some pt =>
            obtain ⟨p, t1⟩ := pt
            rw [he] at h
            simp only at h
            obtain ⟨k1, k2, k3⟩ := cut_esc r p t1 he
            have k0 := cut_cons 92 r (by decide)
            cases hg : strGo f t1 with
            | none => rw [hg] at h; cases h
            | some x =>
              obtain ⟨Q, u⟩ := x
              rw [hg] at h
              injection h with h; injection h with h1 h2
              simp only at h1 h2
              subst h1; subst h2
              obtain ⟨g1, g2, g3⟩ := cut_go f t1 Q u ((k0.trans k1).2 hv) hg
              refine ⟨(k0.trans k1).trans g1, by simp only [List.length_cons]; omega, fun q hq => ?_⟩
              rcases List.mem_cons.1 hq with hq | hq
              · rw [hq]; exact k3
              · exact g3 q hq
        · have hs := valid_step (c :: r) (by simp)
          rw [hv] at hs
          have hs2 := hs.symm
          rw [Bool.and_eq_true] at hs2
          obtain ⟨hw, hv2⟩ := hs2
          obtain ⟨d1, d2, d3, d4⟩ := decode_pt (c :: r) (by simp) hw
          cases hg : strGo f ((c :: r).drop (decodeL (c :: r)).2) with
          | none => rw [hg] at h; cases h
          | some x =>
            obtain ⟨Q, u⟩ := x
            rw [hg] at h
            injection h with h; injection h with h1 h2
            simp only at h1 h2
            subst h1; subst h2
            obtain ⟨g1, g2, g3⟩ := cut_go f _ Q u hv2 hg
            have hl := List.length_drop (i := (decodeL (c :: r)).2) (l := c :: r)
            have g11 := g1.1
            refine ⟨⟨by omega, fun _ => g1.2 hv2⟩, by simp only [List.length_cons] at *; omega, fun q hq => ?_⟩
            rcases List.mem_cons.1 hq with hq | hq
            · rw [hq]; exact d1
            · exact g3 q hq
/-- More rounds than bytes change nothing. -/
theorem strGo_fuel : ∀ (f g : Nat) (l : List UInt8), l.length ≤ f → l.length ≤ g → strGo f l = strGo g l
  | 0, 0, l, _, _ => rfl
  | 0, g + 1, l, hf, _ => by
    have : l = [] := List.eq_nil_of_length_eq_zero (by omega)
    subst this
    rw [strGo, strGo]
  | f + 1, 0, l, _, hg => by
    have : l = [] := List.eq_nil_of_length_eq_zero (by omega)
    subst this
    rw [strGo, strGo]
  | f + 1, g + 1, [], _, _ => by rw [strGo, strGo]
  | f + 1, g + 1, c :: r, hf, hg => by
    rw [strGo, strGo]
    simp only [List.length_cons] at hf hg
    have hdl : ((c :: r).drop (decodeL (c :: r)).2).length ≤ r.length := by
      have := decodeL_width (c :: r)
      rw [List.length_drop, List.length_cons]; omega
    rw [strGo_fuel f g _ (Nat.le_trans hdl (by omega)) (Nat.le_trans hdl (by omega))]
    cases he : escJ r with
    | none => rfl
    | some pt =>
      obtain ⟨p, t1⟩ := pt
      have := (cut_esc r p t1 he).2.1
      simp only
      rw [strGo_fuel f g t1 (by omega) (by omega)]
theorem flat_len : ∀ P : List Nat, (P.flatMap encN).length ≤ 4 * P.length
  | [] => by simp
  | p :: P => by
    rw [List.flatMap_cons, List.length_append, List.length_cons]
    have h1 := flat_len P
    have h2 : (encN p).length ≤ 4 := by
      unfold encN; repeat' split
      all_goals simp
    omega
theorem cut_str (l s t : List UInt8) (hv : validD l = true) (h : strJ l = some (s, t)) : Cut l t ∧ t.length < l.length ∧ s.length ≤ 4 * l.length := by
  unfold strJ at h
  cases ht : tkJ [34] l with
  | none => rw [ht] at h; cases h
  | some r =>
    rw [ht] at h
    obtain ⟨k1, k2⟩ := cut_tk _ _ _ (by decide) ht
    simp only at h
    cases hg : strGo r.length r with
    | none => rw [hg] at h; cases h
    | some x =>
      obtain ⟨P, u⟩ := x
      rw [hg] at h
      injection h with h; injection h with h1 h2
      simp only at h1 h2
      subst h1; subst h2
      obtain ⟨g1, g2, g3⟩ := cut_go _ r P u (k1.2 hv) hg
      have := flat_len P
      simp only [List.length_cons, List.length_nil] at k2
      exact ⟨k1.trans g1, by omega, by omega⟩
theorem cut_mem (nm : List (List UInt8)) (l s t : List UInt8) (hv : validD l = true) (h : memJ nm l = .ok (s, t)) : Cut l t ∧ t.length < l.length ∧ s.length ≤ 4 * l.length := by
  unfold memJ at h
  cases hs : strJ l with
  | none => rw [hs] at h; cases h
  | some x =>
    obtain ⟨q, u⟩ := x
    rw [hs] at h
    obtain ⟨k1, k2, k3⟩ := cut_str l q u hv hs
    simp only at h
    split at h
    · cases h
    · split at h
      · cases h
      · cases ht : tkJ [58] (blJ u) with
        | none => rw [ht] at h; cases h
        | some r =>
          rw [ht] at h
          injection h with h; injection h with h1 h2
          subst h1; subst h2
          obtain ⟨g1, g2⟩ := cut_tk _ _ _ (by decide) ht
          have b := cut_bl u
          have b1 := b.1
          simp only [List.length_cons, List.length_nil] at g2
          exact ⟨(k1.trans b).trans g1, by omega, k3⟩
/-- What a value leaves, and makes. -/
def ValW (val : List UInt8 → List UInt8 → List Cel → Except Int (List UInt8 × List Cel)) : Prop := ∀ name l out t o2, validD l = true → val name l out = .ok (t, o2) → Cut l t ∧ t.length < l.length ∧ ∃ new, o2 = out ++ new ∧ 0 < new.length
theorem cut_items (val : List UInt8 → List UInt8 → List Cel → Except Int (List UInt8 × List Cel)) (hval : ValW val) (isO : Bool) : ∀ (f n : Nat) (nm : List (List UInt8)) (l : List UInt8) (out : List Cel) (k : Nat) (t : List UInt8) (o2 : List Cel), validD l = true → itemsJ val isO f n nm l out = .ok (k, t, o2) → Cut l t ∧ t.length < l.length ∧ n ≤ k ∧ k + t.length < n + l.length ∧ ∃ new, o2 = out ++ new
  | 0, n, nm, l, out, k, t, o2, _, h => by rw [itemsJ] at h; cases h
  | f + 1, n, nm, l, out, k, t, o2, hv, h => by
    rw [itemsJ] at h
    cases ht : tkJ [if isO then 125 else 93] l with
    | some r =>
      rw [ht] at h
      injection h with h; injection h with h1 h2; injection h2 with h2 h3
      subst h1; subst h2; subst h3
      obtain ⟨k1, k2⟩ := cut_tk _ _ _ (by cases isO <;> decide) ht
      simp only [List.length_cons, List.length_nil] at k2
      exact ⟨k1, by omega, Nat.le_refl _, by omega, [], by simp⟩
    | none =>
      rw [ht] at h
      simp only at h
      cases hc : (if n = 0 then some l else (tkJ [44] l).map blJ) with
      | none => rw [hc] at h; cases h
      | some l1 =>
        rw [hc] at h
        simp only at h
        have c1 : Cut l l1 := by
          split at hc
          · injection hc with hc; subst hc; exact Cut.refl _
          · cases hk : tkJ [44] l with
            | none => rw [hk] at hc; cases hc
            | some r =>
              rw [hk] at hc
              injection hc with hc
              subst hc
              exact (cut_tk _ _ _ (by decide) hk).1.trans (cut_bl r)
        cases hm : (if isO then memJ nm l1 else .ok ([], l1)) with
        | error e => rw [hm] at h; cases h
        | ok x =>
          obtain ⟨s, l2⟩ := x
          rw [hm] at h
          simp only at h
          have c2 : Cut l1 l2 := by
            split at hm
            · exact (cut_mem nm l1 s l2 (c1.2 hv) hm).1
            · injection hm with hm; injection hm with h1 h2; subst h2; exact Cut.refl _
          cases hx : val s l2 out with
          | error e => rw [hx] at h; cases h
          | ok y =>
            obtain ⟨l3, out2⟩ := y
            rw [hx] at h
            simp only at h
            obtain ⟨c3, h3, new, rfl, hnew⟩ := hval _ _ _ _ _ ((c1.trans c2).2 hv) hx
            have c4 := cut_bl l3
            obtain ⟨c5, h5, h6, h7, new2, rfl⟩ := cut_items val hval isO f (n + 1) _ (blJ l3) (out ++ new) k t o2 ((((c1.trans c2).trans c3).trans c4).2 hv) h
            have l1' := c1.1; have l2' := c2.1; have l4' := c4.1
            exact ⟨(((c1.trans c2).trans c3).trans c4).trans c5, by omega, by omega, by omega, new ++ new2, by rw [List.append_assoc]⟩
theorem cut_leaf (name : List UInt8) (c : UInt8) (r : List UInt8) (out : List Cel) (t : List UInt8) (o2 : List Cel) (hv : validD (c :: r) = true) (h : leafJ name c (c :: r) out = .ok (t, o2)) : Cut (c :: r) t ∧ t.length < (c :: r).length ∧ ∃ x : Cel, o2 = out ++ [x] := by
  unfold leafJ at h
  split at h
  · cases hs : strJ (c :: r) with
    | none => rw [hs] at h; cases h
    | some y =>
      obtain ⟨s, u⟩ := y
      rw [hs] at h
      injection h with h; injection h with h1 h2
      subst h1; subst h2
      obtain ⟨k1, k2, k3⟩ := cut_str _ s u hv hs
      exact ⟨k1, k2, _, rfl⟩
  have tk : ∀ (w : List UInt8) (x : Cel), (∀ c ∈ w, c.toNat < 128) → 0 < w.length → (match tkJ w (c :: r) with | none => (.error 40 : Except Int (List UInt8 × List Cel)) | some t => .ok (t, out ++ [x])) = .ok (t, o2) → Cut (c :: r) t ∧ t.length < (c :: r).length ∧ ∃ x : Cel, o2 = out ++ [x] := by
    intro w x hw h0 h
    cases hs : tkJ w (c :: r) with
    | none => rw [hs] at h; cases h
    | some u =>
      rw [hs] at h
      injection h with h; injection h with h1 h2
      subst h1; subst h2
      obtain ⟨k1, k2⟩ := cut_tk _ _ _ hw hs
      exact ⟨k1, by omega, _, rfl⟩
  split at h
  · exact tk [116, 114, 117, 101] _ (by decide) (by decide) h
  split at h
  · exact tk [102, 97, 108, 115, 101] _ (by decide) (by decide) h
  split at h
  · exact tk [110, 117, 108, 108] _ (by decide) (by decide) h
  · cases hs : numJ (c :: r) with
    | error e => rw [hs] at h; cases h
    | ok y =>
      obtain ⟨s, u⟩ := y
      rw [hs] at h
      injection h with h; injection h with h1 h2
      subst h1; subst h2
      obtain ⟨k1, k2⟩ := cut_num _ s u hs
      exact ⟨k1, k2, _, rfl⟩
theorem modify_app (k n : Nat) (out : List Cel) (c : Cel) (new : List Cel) (hk : k = out.length) : manyAt k n (out ++ c :: new) = out ++ { c with many := (n : Int) } :: new := by
  unfold manyAt
  subst hk
  induction out with
  | nil => rfl
  | cons x out ih => rw [List.cons_append, List.length_cons, List.modify_succ_cons, ih]; rfl
theorem cut_val_step (d : Nat) (ih : ∀ e, d = e + 1 → ValW (valJ e)) : ValW (valJ d) := by
    intro name l out t o2 hv h
    unfold valJ at h
    have b := cut_bl l
    have b1 := b.1
    cases hb : blJ l with
    | nil => rw [hb] at h; simp at h
    | cons c r =>
      rw [hb] at h b b1
      simp only at h
      split at h
      · cases h
      · split at h
        · cases h
        · split at h
          · rename_i hc
            cases d with
            | zero => first | (cases h; done) | simp at h
            | succ d =>
              try simp only at h
              have c0 : Cut (c :: r) r := cut_cons c r (by rcases hc with hc | hc <;> (subst hc; decide))
              have c1 := cut_bl r
              cases hi : itemsJ (valJ d) (c == 123) (r.length + 1) 0 [] (blJ r) (out ++ [⟨if c = 123 then 7 else 6, name, [], 0, 0⟩]) with
              | error e => rw [hi] at h; cases h
              | ok y =>
                obtain ⟨n, u, o3⟩ := y
                rw [hi] at h
                injection h with h; injection h with h1 h2
                subst h1; subst h2
                obtain ⟨k1, k2, _, _, new, rfl⟩ := cut_items _ (ih d rfl) _ _ _ _ _ _ _ _ _ (((b.trans c0).trans c1).2 hv) hi
                have l1 := c1.1
                simp only [List.length_cons] at b1
                refine ⟨((b.trans c0).trans c1).trans k1, by omega, ⟨if c = 123 then 7 else 6, name, [], 0, (n : Int)⟩ :: new, ?_, by simp⟩
                rw [List.append_assoc, List.singleton_append, modify_app _ _ _ _ _ rfl]
          · obtain ⟨k1, k2, x, rfl⟩ := cut_leaf name c r out t o2 (b.2 hv) h
            exact ⟨b.trans k1, by omega, [x], rfl, by simp⟩
theorem cut_val : ∀ d : Nat, ValW (valJ d)
  | 0 => cut_val_step 0 fun e h => by omega
  | d + 1 => cut_val_step (d + 1) fun e h => by
    have : e = d := by omega
    subst this
    exact cut_val e
/-- More rounds than bytes change nothing. -/
theorem items_fuel (val : List UInt8 → List UInt8 → List Cel → Except Int (List UInt8 × List Cel)) (hval : ValW val) (isO : Bool) : ∀ (f g n : Nat) (nm : List (List UInt8)) (l : List UInt8) (out : List Cel), validD l = true → l.length < f → l.length < g → itemsJ val isO f n nm l out = itemsJ val isO g n nm l out
  | 0, g, n, nm, l, out, _, hf, _ => by omega
  | f + 1, 0, n, nm, l, out, _, _, hg => by omega
  | f + 1, g + 1, n, nm, l, out, hv, hf, hg => by
    rw [itemsJ, itemsJ]
    cases ht : tkJ [if isO then 125 else 93] l with
    | some r => rfl
    | none =>
      simp only
      cases hc : (if n = 0 then some l else (tkJ [44] l).map blJ) with
      | none => rfl
      | some l1 =>
        simp only
        have c1 : Cut l l1 := by
          split at hc
          · injection hc with hc; subst hc; exact Cut.refl _
          · cases hk : tkJ [44] l with
            | none => rw [hk] at hc; cases hc
            | some r =>
              rw [hk] at hc
              injection hc with hc
              subst hc
              exact (cut_tk _ _ _ (by decide) hk).1.trans (cut_bl r)
        cases hm : (if isO then memJ nm l1 else .ok ([], l1)) with
        | error e => rfl
        | ok x =>
          obtain ⟨s, l2⟩ := x
          simp only
          have c2 : Cut l1 l2 := by
            split at hm
            · exact (cut_mem nm l1 s l2 (c1.2 hv) hm).1
            · injection hm with hm; injection hm with h1 h2; subst h2; exact Cut.refl _
          cases hx : val s l2 out with
          | error e => rfl
          | ok y =>
            obtain ⟨l3, out2⟩ := y
            simp only
            obtain ⟨c3, h3, _⟩ := hval _ _ _ _ _ ((c1.trans c2).2 hv) hx
            have c4 := cut_bl l3
            have l1' := c1.1; have l2' := c2.1; have l4' := c4.1
            exact items_fuel val hval isO f g _ _ _ _ ((((c1.trans c2).trans c3).trans c4).2 hv) (by omega) (by omega)
end Go.Proofs.YtgclnjogoghhcaaGreatDoor
namespace Go.Proofs.YtgclnjogoghhcaaGreatDoor
open Go.Lib
/-- Nothing that a number could go on with. -/
def StopJ (l : List UInt8) : Prop := ∀ c, l.head? = some c → isDig c = false ∧ c ≠ 46 ∧ c ≠ 101 ∧ c ≠ 69
theorem tk_app (w r : List UInt8) : tkJ w (w ++ r) = some r := by
  unfold tkJ
  rw [if_pos (by simp), List.drop_left]
theorem tk_one' (c : UInt8) (r : List UInt8) : tkJ [c] (c :: r) = some r := tk_app [c] r
theorem tk_ne {c d : UInt8} (r : List UInt8) (h : d ≠ c) : tkJ [c] (d :: r) = none := by
  unfold tkJ
  have hb : (c == d) = false := beq_eq_false_iff_ne.2 (Ne.symm h)
  simp [List.isPrefixOf, hb]
theorem hex_dig (n : Nat) (h : n < 16) : hexJ (hexD n) = some n := (by decide +kernel : ∀ i : Fin 16, hexJ (hexD i.val) = some i.val) ⟨n, h⟩
theorem quoteC_big (c : UInt8) (h : 128 ≤ c.toNat) : quoteC c = [c] := by
  have := (by decide +kernel : ∀ i : Fin 256, 128 ≤ i.val → quoteC (UInt8.ofNat i.val) = [UInt8.ofNat i.val]) ⟨c.toNat, UInt8.toNat_lt c⟩ h
  simpa only [UInt8.ofNat_toNat] using this
theorem strGo_q (f : Nat) (r : List UInt8) : strGo (f + 1) (34 :: r) = some ([], r) := by rw [strGo, if_pos rfl]
theorem strGo_bs (f : Nat) (t : List UInt8) : strGo (f + 1) (92 :: t) = (match escJ t with | none => none | some (p, u) => (strGo f u).map fun x => (p :: x.1, x.2)) := by
  rw [strGo, if_neg (by decide), if_neg (by decide), if_pos rfl]
  all_goals rfl
theorem strGo_raw (f : Nat) (c : UInt8) (r : List UInt8) (h1 : c ≠ 34) (h2 : ¬ c.toNat < 32) (h3 : c ≠ 92) : strGo (f + 1) (c :: r) = (strGo f ((c :: r).drop (decodeL (c :: r)).2)).map fun x => ((decodeL (c :: r)).1 :: x.1, x.2) := by
  rw [strGo, if_neg h1, if_neg h2, if_neg h3]
/-- An ASCII byte, quoted, is read as itself. -/
theorem strGo_ascii (f : Nat) (c : UInt8) (r : List UInt8) (h : c.toNat < 128) : strGo (f + 1) (quoteC c ++ r) = (strGo f r).map fun x => (c.toNat :: x.1, x.2) := by
  by_cases h34 : c = 34
  · subst h34; rw [show quoteC 34 ++ r = 92 :: 34 :: r from rfl, strGo_bs]; rfl
  by_cases h92 : c = 92
  · subst h92; rw [show quoteC 92 ++ r = 92 :: 92 :: r from rfl, strGo_bs]; rfl
  by_cases h8 : c = 8
  · subst h8; rw [show quoteC 8 ++ r = 92 :: 98 :: r from rfl, strGo_bs]; rfl
  by_cases h9 : c = 9
  · subst h9; rw [show quoteC 9 ++ r = 92 :: 116 :: r from rfl, strGo_bs]; rfl
  by_cases h10 : c = 10
  · subst h10; rw [show quoteC 10 ++ r = 92 :: 110 :: r from rfl, strGo_bs]; rfl
  by_cases h12 : c = 12
  · subst h12; rw [show quoteC 12 ++ r = 92 :: 102 :: r from rfl, strGo_bs]; rfl
  by_cases h13 : c = 13
  · subst h13; rw [show quoteC 13 ++ r = 92 :: 114 :: r from rfl, strGo_bs]; rfl
  by_cases h32 : c.toNat < 32
  · have hq : quoteC c = [92, 117, 48, 48, hexD (c.toNat / 16), hexD (c.toNat % 16)] := by
      unfold quoteC
      rw [if_neg (by rintro (e | e); exact h34 e; exact h92 e), if_neg h8, if_neg h9, if_neg h10, if_neg h12, if_neg h13, if_pos h32]
    have he : escJ (117 :: 48 :: 48 :: hexD (c.toNat / 16) :: hexD (c.toNat % 16) :: r) = some (c.toNat, r) := by
      have h0 : hexsJ 4 0 (48 :: 48 :: hexD (c.toNat / 16) :: hexD (c.toNat % 16) :: r) = some (c.toNat, r) := by
        rw [hexsJ, show hexJ 48 = some 0 from by decide]
        simp only
        rw [hexsJ, show hexJ 48 = some 0 from by decide]
        simp only
        rw [hexsJ, hex_dig _ (by omega)]
        simp only
        rw [hexsJ, hex_dig _ (by omega)]
        simp only
        rw [hexsJ]
        congr 2; omega
      simp only [escJ, show letJ 117 = none from by decide, h0, ne_eq, not_true_eq_false, if_false]
      rw [if_neg (by omega), if_neg (by omega)]
    rw [hq, show [92, 117, 48, 48, hexD (c.toNat / 16), hexD (c.toNat % 16)] ++ r = 92 :: 117 :: 48 :: 48 :: hexD (c.toNat / 16) :: hexD (c.toNat % 16) :: r from rfl, strGo_bs, he]
  · have hq : quoteC c = [c] := by
      unfold quoteC
      rw [if_neg (by rintro (e | e); exact h34 e; exact h92 e), if_neg h8, if_neg h9, if_neg h10, if_neg h12, if_neg h13, if_neg h32]
    rw [hq, List.singleton_append, strGo_raw f c r h34 h32 h92, decode_ascii c r h]
    rfl
theorem big_all : ∀ l : List UInt8, (∀ c ∈ l, 128 ≤ c.toNat) → l.flatMap quoteC = l
  | [], _ => rfl
  | c :: l, h => by
    rw [List.flatMap_cons, quoteC_big c (h c (by simp)), big_all l fun x hx => h x (by simp [hx])]; rfl
/-- A code point of more than one byte has no byte below 128. -/
theorem enc_big (n : Nat) (hp : isPt n = true) (h : 128 ≤ n) : ∀ c ∈ encN n, 128 ≤ c.toNat := by
  unfold isPt at hp
  rw [decide_eq_true_eq] at hp
  intro c hc
  unfold encN at hc
  rw [if_neg (by omega)] at hc
  split at hc
  · simp only [List.mem_cons, List.not_mem_nil, or_false] at hc
    rcases hc with rfl | rfl <;> (rw [ofN _ (by omega)]; omega)
  · split at hc
    · simp only [List.mem_cons, List.not_mem_nil, or_false] at hc
      rcases hc with rfl | rfl | rfl <;> (rw [ofN _ (by omega)]; omega)
    · simp only [List.mem_cons, List.not_mem_nil, or_false] at hc
      rcases hc with rfl | rfl | rfl | rfl <;> (rw [ofN _ (by omega)]; omega)
/-- What is quoted is read as itself. -/
theorem strGo_quote : ∀ (n : Nat) (t r : List UInt8) (f : Nat), t.length ≤ n → validD t = true → t.length < f → ∃ P, strGo f (t.flatMap quoteC ++ 34 :: r) = some (P, r) ∧ P.flatMap encN = t
  | n, [], r, f, _, _, hf => by
    obtain ⟨g, rfl⟩ : ∃ g, f = g + 1 := ⟨f - 1, by simp at hf; omega⟩
    exact ⟨[], strGo_q g r, rfl⟩
  | 0, c :: t, r, f, hn, _, _ => by simp at hn
  | n + 1, c :: t, r, f, hn, hv, hf => by
    obtain ⟨g, rfl⟩ : ∃ g, f = g + 1 := ⟨f - 1, by simp at hf; omega⟩
    simp only [List.length_cons] at hn hf
    by_cases hc : c.toNat < 128
    · have hv2 : validD t = true := by rw [valid_cons c t hc] at hv; exact hv
      obtain ⟨P, h1, h2⟩ := strGo_quote n t r g (by omega) hv2 (by omega)
      refine ⟨c.toNat :: P, ?_, ?_⟩
      · rw [List.flatMap_cons, List.append_assoc, strGo_ascii g c _ hc, h1]; rfl
      · rw [List.flatMap_cons, h2]
        have : encN c.toNat = [c] := by unfold encN; rw [if_pos hc, UInt8.ofNat_toNat]
        rw [this]; rfl
    · have hs := valid_step (c :: t) (by simp)
      rw [hv] at hs
      have hs2 := hs.symm
      rw [Bool.and_eq_true] at hs2
      obtain ⟨hw, hv2⟩ := hs2
      obtain ⟨d1, d2, d3, d4⟩ := decode_pt (c :: t) (by simp) hw
      obtain ⟨p, hp⟩ : ∃ p, (decodeL (c :: t)).1 = p := ⟨_, rfl⟩
      obtain ⟨m, hm⟩ : ∃ m, (decodeL (c :: t)).2 = m := ⟨_, rfl⟩
      rw [hp, hm] at d4
      rw [hp] at d1
      rw [hm] at d2 d3 hv2
      have hsplit : c :: t = encN p ++ (c :: t).drop m := by rw [d4, List.take_append_drop]
      have hml : (encN p).length = m := by rw [d4, List.length_take]; omega
      have hp128 : 128 ≤ p := by
        rcases Nat.lt_or_ge p 128 with h | h
        · have h1 : encN p = [UInt8.ofNat p] := by unfold encN; rw [if_pos h]
          rw [h1] at hsplit
          injection hsplit with h2 h3
          rw [h2, ofN p (by omega)] at hc
          exact absurd h hc
        · exact h
      have hdl : ((c :: t).drop m).length = t.length + 1 - m := by rw [List.length_drop]; rfl
      obtain ⟨P, h1, h2⟩ := strGo_quote n ((c :: t).drop m) r g (by omega) hv2 (by omega)
      refine ⟨p :: P, ?_, ?_⟩
      · have hfm : (c :: t).flatMap quoteC = encN p ++ ((c :: t).drop m).flatMap quoteC := by
          conv => lhs; rw [hsplit]
          rw [List.flatMap_append, big_all _ (enc_big p d1 hp128)]
        rw [hfm, List.append_assoc]
        obtain ⟨c0, r0, he⟩ : ∃ c0 r0, encN p = c0 :: r0 := by
          cases h : encN p with
          | nil => rw [h] at hml; simp at hml; omega
          | cons a b => exact ⟨a, b, rfl⟩
        have hc0 : 128 ≤ c0.toNat := enc_big p d1 hp128 c0 (by rw [he]; simp)
        have hdec := decode_enc p d1 (((c :: t).drop m).flatMap quoteC ++ 34 :: r)
        rw [he] at hdec ⊢
        rw [List.cons_append] at hdec ⊢
        rw [strGo_raw g c0 _ (by intro e; subst e; exact absurd hc0 (by decide)) (by omega) (by intro e; subst e; exact absurd hc0 (by decide)), hdec]
        simp only
        rw [show ((c0 :: (r0 ++ (((c :: t).drop m).flatMap quoteC ++ 34 :: r))).drop (c0 :: r0).length) = ((c :: t).drop m).flatMap quoteC ++ 34 :: r from by rw [← List.cons_append, List.drop_left], h1]
        rfl
      · rw [List.flatMap_cons, h2, ← hsplit]
theorem quoteC_pos (c : UInt8) : 1 ≤ (quoteC c).length := by
  unfold quoteC
  repeat' split
  all_goals simp
theorem flat_quote_len : ∀ t : List UInt8, t.length ≤ (t.flatMap quoteC).length
  | [] => by simp
  | c :: t => by
    rw [List.flatMap_cons, List.length_append, List.length_cons]
    have := quoteC_pos c
    have := flat_quote_len t
    omega
theorem str_quote (t r : List UInt8) (hv : validD t = true) : strJ (quoteL t ++ r) = some (t, r) := by
  unfold strJ quoteL
  rw [show [34] ++ t.flatMap quoteC ++ [34] ++ r = 34 :: (t.flatMap quoteC ++ 34 :: r) from by simp, tk_one']
  simp only
  obtain ⟨P, h1, h2⟩ := strGo_quote t.length t r (t.flatMap quoteC ++ 34 :: r).length (Nat.le_refl _) hv (by have := flat_quote_len t; rw [List.length_append, List.length_cons]; omega)
  rw [h1]
  simp only [Option.map_some, h2]
theorem dig_while : ∀ (l r : List UInt8), l.all isDig = true → (∀ c, r.head? = some c → isDig c = false) → (l ++ r).takeWhile isDig = l ∧ (l ++ r).dropWhile isDig = r
  | [], r, _, hr => by
    cases r with
    | nil => exact ⟨rfl, rfl⟩
    | cons c r =>
      have := hr c rfl
      rw [List.nil_append, List.takeWhile_cons, List.dropWhile_cons, this]
      exact ⟨rfl, rfl⟩
  | c :: l, r, h, hr => by
    rw [List.all_cons, Bool.and_eq_true] at h
    obtain ⟨h1, h2⟩ := dig_while l r h.2 hr
    rw [List.cons_append, List.takeWhile_cons, List.dropWhile_cons, h.1, if_pos rfl, if_pos rfl, h1, h2]
    exact ⟨rfl, rfl⟩
theorem point_stop (r : List UInt8) (h : StopJ r) : pointJ r = none ∧ powerJ r = none := by
  cases r with
  | nil => exact ⟨rfl, rfl⟩
  | cons c r =>
    obtain ⟨h1, h2, h3, h4⟩ := h c rfl
    unfold pointJ powerJ partJ
    have e1 : (c == 46) = false := beq_eq_false_iff_ne.2 h2
    have e2 : (c == 101) = false := beq_eq_false_iff_ne.2 h3
    have e3 : (c == 69) = false := beq_eq_false_iff_ne.2 h4
    simp [e1, e2, e3]
/-- What a number's text tells, whatever stands behind it. -/
theorem num_whole (t r : List UInt8) (ht : okDigits (body t) = true) (hr : StopJ r) : numJ (t ++ r) = if rdE t != 0 then .error 41 else .ok (rdV t, r) := by
  have hd : digitsB (body t) = true := by unfold okDigits at ht; rw [Bool.and_eq_true] at ht; exact ht.1
  have hall : (body t).all isDig = true := by unfold digitsB at hd; rw [Bool.and_eq_true] at hd; exact hd.1
  have hne : body t ≠ [] := by
    intro h
    rw [h] at hd; exact absurd hd (by decide)
  have htne : t ≠ [] := by
    intro h; subst h; exact hne rfl
  have hbl : below (t ++ r) = below t := by
    cases t with
    | nil => exact absurd rfl htne
    | cons c t => rfl
  have hbo : body (t ++ r) = body t ++ r := by
    unfold body
    rw [hbl]
    cases hb : below t with
    | true =>
      rw [if_pos rfl, if_pos rfl]
      cases t with
      | nil => exact absurd rfl htne
      | cons c t => rfl
    | false => rfl
  have hdr : ∀ c, r.head? = some c → isDig c = false := fun c hc => (hr c hc).1
  obtain ⟨w1, w2⟩ := dig_while (body t) r hall hdr
  have hwh : wholeJ (body t ++ r) = body t := by
    unfold wholeJ
    split
    · rename_i h
      have h0 : (body t).head? = some 48 := by
        cases hbt : body t with
        | nil => exact absurd hbt hne
        | cons c u => rw [hbt] at h; simpa using h
      unfold okDigits at ht
      rw [Bool.and_eq_true] at ht
      have h1 := ht.2
      rw [h0] at h1
      simp only [beq_self_eq_true, Bool.true_and, Bool.not_eq_true', decide_eq_false_iff_not] at h1
      cases hbt : body t with
      | nil => exact absurd hbt hne
      | cons c u =>
        rw [hbt] at h0 h1
        simp only [List.head?_cons, Option.some.injEq] at h0
        cases u with
        | nil => rw [h0]
        | cons a b => simp at h1
    · exact w1
  obtain ⟨q1, q2⟩ := point_stop r hr
  have hsg : (if below t then ([45] : List UInt8) else []) ++ body t = t := by
    unfold body
    cases t with
    | nil => exact absurd rfl htne
    | cons c t =>
      by_cases hc : c = 45
      · subst hc; rfl
      · have : below (c :: t) = false := by unfold below; exact beq_eq_false_iff_ne.2 hc
        rw [this]; rfl
  unfold numJ
  simp only
  rw [hbo, hwh, hbl]
  have hie : (body t).isEmpty = false := by
    cases hbt : body t with
    | nil => exact absurd hbt hne
    | cons a b => rfl
  rw [hie]
  simp only [Bool.false_eq_true, if_false, List.drop_left, q1, q2, Option.getD_none, Option.isSome_none, Bool.false_or, hsg]
theorem num_itoa (n : Int) (hr : R n) (r : List UInt8) (h : StopJ r) : numJ (Lib.itoa n ++ r) = .ok (n, r) := by
  rw [num_whole _ r (read_itoa n).1 h, rdE_itoa n hr, rdV_itoa n hr]
  rfl
theorem bl_not (c : UInt8) (r : List UInt8) (h : blankJ c = false) : blJ (c :: r) = c :: r := by
  unfold blJ
  rw [List.dropWhile_cons, h]; rfl
theorem itoa_head (n : Int) : ∃ c r, Lib.itoa n = c :: r ∧ (c = 45 ∨ isDig c = true) := by
  have h := (read_itoa n).1
  cases hi : Lib.itoa n with
  | nil => rw [hi] at h; exact absurd h (by decide)
  | cons c r =>
    refine ⟨c, r, rfl, ?_⟩
    by_cases hc : c = 45
    · exact Or.inl hc
    · right
      rw [hi] at h
      have hb : body (c :: r) = c :: r := by
        unfold body
        have : below (c :: r) = false := by unfold below; exact beq_eq_false_iff_ne.2 hc
        rw [this]; rfl
      rw [hb] at h
      unfold okDigits digitsB at h
      simp only [Bool.and_eq_true, List.all_cons] at h
      exact h.1.1.1
theorem dig_rng (c : UInt8) : isDig c = true ↔ 48 ≤ c.toNat ∧ c.toNat ≤ 57 := by unfold isDig; exact decide_eq_true_iff
/-- A value's text, at its head: one of those that a value begins with. -/
theorem lit_head (c : Cel) (h1 : oneC c = true) (hn : nestC c = false) : ∃ a r, litJ c = a :: r ∧ begJ a = true ∧ a ≠ 123 ∧ a ≠ 91 ∧ blankJ a = false := by
  unfold litJ
  split
  · exact ⟨110, _, rfl, by decide, by decide, by decide, by decide⟩
  · split
    · split
      · exact ⟨116, _, rfl, by decide, by decide, by decide, by decide⟩
      · exact ⟨102, _, rfl, by decide, by decide, by decide, by decide⟩
    · split
      · obtain ⟨a, r, h, ha⟩ := itoa_head c.num
        refine ⟨a, r, h, ?_⟩
        rcases ha with rfl | ha
        · exact ⟨by decide, by decide, by decide, by decide⟩
        · have := (dig_rng a).1 ha
          refine ⟨?_, ?_, ?_, ?_⟩
          · unfold begJ; rw [ha]; simp
          · intro e; subst e; exact absurd this (by decide)
          · intro e; subst e; exact absurd this (by decide)
          · unfold blankJ
            simp only [Bool.or_eq_false_iff, beq_eq_false_iff_ne, ne_eq]
            refine ⟨⟨⟨?_, ?_⟩, ?_⟩, ?_⟩ <;> (intro e; subst e; exact absurd this (by decide))
      · exact ⟨34, _, rfl, by decide, by decide, by decide, by decide⟩
end Go.Proofs.YtgclnjogoghhcaaGreatDoor
namespace Go.Proofs.YtgclnjogoghhcaaGreatDoor
open Go.Lib
/-- A cell that JSON can tell. -/
def GoodC (c : Cel) : Prop := (c.kind == 4 || c.kind == 5) = false ∧ R c.num
def renJ (name : List UInt8) : List Cel → List Cel
  | [] => []
  | c :: r => { c with name := name } :: r
theorem dig_ne (a : UInt8) (h : isDig a = true) (x : Nat) (hx : x < 256) (ho : x < 48 ∨ 57 < x) : a ≠ UInt8.ofNat x := by
  intro e
  have h1 := (dig_rng a).1 h
  rw [e, ofN x hx] at h1
  omega
theorem leaf_good (c : Cel) (h1 : oneC c = true) (hn : nestC c = false) (hg : GoodC c) (name rest : List UInt8) (out : List Cel) (hs : StopJ rest) :
    ∃ a r, litJ c ++ rest = a :: r ∧ begJ a = true ∧ a ≠ 123 ∧ a ≠ 91 ∧ blankJ a = false ∧ leafJ name a (litJ c ++ rest) out = .ok (rest, out ++ [{ c with name := name }]) := by
  obtain ⟨a, r, hl, b1, b2, b3, b4⟩ := lit_head c h1 hn
  refine ⟨a, r ++ rest, by rw [hl]; rfl, b1, b2, b3, b4, ?_⟩
  obtain ⟨kind, nm, text, num, many⟩ := c
  obtain ⟨he, hR⟩ := hg
  simp only at he hR
  unfold nestC at hn
  simp only [Bool.or_eq_false_iff, beq_eq_false_iff_ne] at hn he
  unfold oneC at h1
  simp only at h1
  unfold litJ at hl ⊢
  simp only at hl ⊢
  by_cases k0 : kind = 0
  · rw [if_pos k0] at h1 hl ⊢
    simp only [Bool.and_eq_true, List.isEmpty_iff, beq_iff_eq] at h1
    obtain ⟨⟨e1, e2⟩, e3⟩ := h1
    injection hl with hl _
    subst hl
    unfold leafJ
    rw [if_neg (by decide), if_neg (by decide), if_neg (by decide), if_pos rfl, tk_app, k0, e1, e2, e3]
  rw [if_neg k0] at h1 hl ⊢
  by_cases k1 : kind = 1
  · rw [if_pos k1] at h1 hl ⊢
    simp only [Bool.and_eq_true, Bool.or_eq_true, List.isEmpty_iff, beq_iff_eq] at h1
    obtain ⟨⟨e1, e2⟩, e3⟩ := h1
    by_cases hb : num = 1
    · rw [if_pos hb] at hl ⊢
      injection hl with hl _
      subst hl
      unfold leafJ
      rw [if_neg (by decide), if_pos rfl, tk_app, k1, e1, hb, e3]
    · rw [if_neg hb] at hl ⊢
      injection hl with hl _
      subst hl
      have hb0 : num = 0 := e2.resolve_right hb
      unfold leafJ
      rw [if_neg (by decide), if_neg (by decide), if_pos rfl, tk_app, k1, e1, hb0, e3]
  rw [if_neg k1] at h1 hl ⊢
  by_cases k2 : kind = 2
  · rw [if_pos k2] at h1 hl ⊢
    simp only [Bool.and_eq_true, List.isEmpty_iff, beq_iff_eq] at h1
    obtain ⟨e1, e3⟩ := h1
    have ha : a = 45 ∨ isDig a = true := by
      obtain ⟨a', r', h', ha'⟩ := itoa_head num
      rw [hl] at h'
      injection h' with h' _
      rw [h']; exact ha'
    have hne : ∀ x : Nat, x < 256 → 57 < x ∨ x = 34 → a ≠ UInt8.ofNat x := fun x hx ho => by
      rcases ha with rfl | ha
      · intro e
        have := congrArg UInt8.toNat e
        rw [ofN x hx] at this
        have h45 : (45 : UInt8).toNat = 45 := rfl
        omega
      · exact dig_ne a ha x hx (by omega)
    unfold leafJ
    rw [if_neg (show ¬ a = 34 from hne 34 (by decide) (by decide)), if_neg (show ¬ a = 116 from hne 116 (by decide) (by decide)), if_neg (show ¬ a = 102 from hne 102 (by decide) (by decide)), if_neg (show ¬ a = 110 from hne 110 (by decide) (by decide)), num_itoa num hR rest hs, k2, e1, e3]
  rw [if_neg k2] at h1 hl ⊢
  by_cases k3 : kind = 3
  · rw [if_pos k3] at h1
    simp only [Bool.and_eq_true, beq_iff_eq] at h1
    obtain ⟨⟨e1, e2⟩, e3⟩ := h1
    unfold textB at e1
    rw [Bool.and_eq_true] at e1
    have ha : a = 34 := by
      unfold quoteL at hl
      simp only [List.cons_append, List.nil_append] at hl
      injection hl with hl _
      exact hl.symm
    subst ha
    unfold leafJ
    rw [if_pos rfl, str_quote text rest e1.2, k3, e2, e3]
  rw [if_neg k3, if_neg (by rintro (e | e); exact he.1 e; exact he.2 e), if_neg (by rintro (e | e); exact hn.1 e; exact hn.2 e)] at h1
  cases h1
theorem text_head : ∀ (d : Nat) (V : List Cel) (k : Nat), valN d V = some k → ∃ a r, textJ d V = a :: r ∧ begJ a = true ∧ blankJ a = false
  | d, [], k, h => by cases d <;> cases h
  | d, c :: r, k, h => by
    have hone : oneC c = true := by
      cases d <;> (first | rw [valN_zero, headN_cons] at h | rw [valN_more, headN_cons] at h) <;> (cases h1 : oneC c with | true => rfl | false => rw [h1] at h; cases h)
    cases hn : nestC c with
    | false =>
      obtain ⟨a, r', hl, b1, _, _, b4⟩ := lit_head c hone hn
      refine ⟨a, r', ?_, b1, b4⟩
      cases d <;> (first | rw [textJ_zero, headJ_cons, hn] | rw [textJ_more, headJ_cons, hn]) <;> exact hl
    | true =>
      cases d with
      | zero => rw [valN_zero, headN_cons, hone, hn] at h; cases h
      | succ d =>
        rw [textJ_more, headJ_cons, hn, if_pos rfl]
        cases hk : c.kind == 6 with
        | true => exact ⟨91, _, rfl, by decide, by decide⟩
        | false => exact ⟨123, _, rfl, by decide, by decide⟩
theorem bl_head (l : List UInt8) (h : ∀ c, l.head? = some c → blankJ c = false) : blJ l = l := by
  cases l with
  | nil => rfl
  | cons c r => exact bl_not c r (h c rfl)
theorem among_cont (L : List (List UInt8)) (n : List UInt8) : amongB L n = L.contains n := by
  unfold amongB
  induction L with
  | nil => rfl
  | cons a L ih =>
    rw [List.any_cons, List.contains_cons, ih]
    congr 1
    exact BEq.comm
theorem kidsN_names (val : List Cel → Option Nat) : ∀ (n : Nat) (nm nm' : List (List UInt8)) (V : List Cel), kidsN val true n nm V = kidsN val true n nm' V
  | 0, nm, nm', V => rfl
  | n + 1, nm, nm', [] => rfl
  | n + 1, nm, nm', c :: r => by
    rw [kidsN, kidsN]
    have : okN true nm c.name = okN true nm' c.name := rfl
    rw [this]
    split
    · cases val (c :: r) with
      | none => rfl
      | some k => simp only; rw [kidsN_names val n (c.name :: nm) (c.name :: nm')]
    · rfl
def endJ (isO : Bool) : UInt8 := if isO then 125 else 93
/-- What is said of a value at a depth. -/
def ValT (d : Nat) : Prop := ∀ (V : List Cel) (k : Nat) (name rest : List UInt8) (out : List Cel), valN d V = some k → (∀ x ∈ V.take k, GoodC x) → StopJ rest → out.length + k ≤ 2048 → valJ d name (textJ d V ++ rest) out = .ok (rest, out ++ renJ name (V.take k))
theorem kids_head (d : Nat) (isO : Bool) (n : Nat) (V : List Cel) (rest : List UInt8) : ∃ a r, kidsJ (valN d) (textJ d) isO n false V ++ endJ isO :: rest = a :: r ∧ (a = 44 ∨ a = endJ isO) := by
  cases n with
  | zero => exact ⟨endJ isO, rest, rfl, Or.inr rfl⟩
  | succ n =>
    rw [kidsJ]
    unfold preJ
    exact ⟨44, _, rfl, Or.inl rfl⟩
theorem end_stop (isO : Bool) (a : UInt8) (r : List UInt8) (h : a = 44 ∨ a = endJ isO) : StopJ (a :: r) ∧ blankJ a = false := by
  have : a = 44 ∨ a = 125 ∨ a = 93 := by
    rcases h with h | h
    · exact Or.inl h
    · cases isO
      · exact Or.inr (Or.inr h)
      · exact Or.inr (Or.inl h)
  refine ⟨fun c hc => ?_, ?_⟩
  · injection hc with hc
    subst hc
    rcases this with rfl | rfl | rfl <;> decide
  · rcases this with rfl | rfl | rfl <;> decide
theorem items_text (d : Nat) (ih : ValT d) (isO : Bool) : ∀ (n m : Nat) (nm : List (List UInt8)) (V : List Cel) (k : Nat) (rest : List UInt8) (out : List Cel) (f : Nat), kidsN (valN d) (!isO) n nm V = some k → (∀ x ∈ V.take k, GoodC x) → out.length + k ≤ 2048 → n < f →
    itemsJ (valJ d) isO f m nm (kidsJ (valN d) (textJ d) isO n (m == 0) V ++ endJ isO :: rest) out = .ok (m + n, rest, out ++ V.take k)
  | 0, m, nm, V, k, rest, out, f, h, hg, hl, hf => by
    obtain ⟨g, rfl⟩ : ∃ g, f = g + 1 := ⟨f - 1, by omega⟩
    have hk : k = 0 := (Option.some.inj h).symm
    subst hk
    rw [kidsJ, List.nil_append, itemsJ]
    rw [show (if isO then (125 : UInt8) else 93) = endJ isO from rfl, tk_one']
    simp
  | n + 1, m, nm, [], k, rest, out, f, h, hg, hl, hf => by cases h
  | n + 1, m, nm, c :: r, k, rest, out, f, h, hg, hl, hf => by
    obtain ⟨g, rfl⟩ : ∃ g, f = g + 1 := ⟨f - 1, by omega⟩
    rw [kidsN] at h
    split at h
    · rename_i hok
      split at h
      · cases h
      · rename_i k1 hk1
        rw [Option.map_eq_some_iff] at h
        obtain ⟨k2, hk2, rfl⟩ := h
        obtain ⟨v1, v2⟩ := valN_le d _ _ hk1
        obtain ⟨a0, r0, ht, hb, hbl⟩ := text_head d _ _ hk1
        obtain ⟨ka, kr, hkh, hka⟩ := kids_head d isO n ((c :: r).drop k1) rest
        obtain ⟨hst, hkb⟩ := end_stop isO ka kr hka
        have htake : (c :: r).take (k1 + k2) = (c :: r).take k1 ++ ((c :: r).drop k1).take k2 := List.take_add
        have hv : ∀ name, name = c.name → valJ d name (textJ d (c :: r) ++ (ka :: kr)) out = .ok (ka :: kr, out ++ (c :: r).take k1) := fun name hnm => by
          rw [ih (c :: r) k1 name (ka :: kr) out hk1 (fun x hx => hg x (by rw [htake]; exact List.mem_append_left _ hx)) hst (by omega)]
          congr 3
          obtain ⟨k1', rfl⟩ : ∃ k1', k1 = k1' + 1 := ⟨k1 - 1, by omega⟩
          rw [List.take_succ_cons, renJ, hnm]
        have hrec := fun nm' (hk2' : kidsN (valN d) (!isO) n nm' ((c :: r).drop k1) = some k2) => items_text d ih isO n (m + 1) nm' ((c :: r).drop k1) k2 rest (out ++ (c :: r).take k1) g hk2' (fun x hx => hg x (by rw [htake]; exact List.mem_append_right _ hx)) (by
          rw [List.length_append, List.length_take, Nat.min_eq_left v2]; omega) (by omega)
        rw [show ((m + 1 == 0) : Bool) = false from by simp, hkh] at hrec
        have hend : ∀ (x : UInt8) (y : List UInt8), x ≠ endJ isO → tkJ [if isO then 125 else 93] (x :: y) = none := fun x y hx => tk_ne y hx
        have hbeg : a0 ≠ endJ isO := by
          intro e
          rw [e] at hb
          cases isO <;> exact absurd hb (by decide)
        have hfin : itemsJ (valJ d) isO g (m + 1) (c.name :: nm) (blJ (ka :: kr)) (out ++ (c :: r).take k1) = .ok (m + (n + 1), rest, out ++ (c :: r).take (k1 + k2)) := by
          rw [bl_not ka kr hkb, hrec _ hk2, htake, List.append_assoc]
          congr 2
          omega
        cases isO with
        | true =>
          simp only [Bool.not_true, okN, Bool.false_eq_true, if_false, Bool.and_eq_true, Bool.not_eq_true'] at hok
          obtain ⟨⟨hne, htx⟩, ham⟩ := hok
          unfold textB at htx
          rw [Bool.and_eq_true] at htx
          -- the member's own text
          have hmem : memJ nm (quoteL c.name ++ ([58] ++ (textJ d (c :: r) ++ (ka :: kr)))) = .ok (c.name, textJ d (c :: r) ++ (ka :: kr)) := by
            unfold memJ
            rw [str_quote c.name _ htx.2]
            simp only
            rw [if_neg (by rw [← among_cont, ham]; simp), if_neg (by rw [hne]; simp)]
            rw [show ([58] ++ (textJ d (c :: r) ++ (ka :: kr))) = 58 :: (textJ d (c :: r) ++ (ka :: kr)) from rfl, bl_not 58 _ (by decide), tk_one']
          have hq : ∃ y, quoteL c.name ++ ([58] ++ (textJ d (c :: r) ++ (ka :: kr))) = 34 :: y := ⟨_, rfl⟩
          obtain ⟨y, hq⟩ := hq
          have hL : kidsJ (valN d) (textJ d) true (n + 1) (m == 0) (c :: r) ++ endJ true :: rest = (if m = 0 then [] else [44]) ++ (quoteL c.name ++ ([58] ++ (textJ d (c :: r) ++ (ka :: kr)))) := by
            rw [kidsJ, hk1, Option.getD_some, ← hkh]
            unfold preJ
            simp only [if_true, List.headD_cons]
            by_cases hm : m = 0
            · subst hm; simp
            · have : (m == 0) = false := by simp [hm]
              rw [this]; simp [hm]
          rw [hL, itemsJ]
          by_cases hm : m = 0
          · rw [if_pos hm, List.nil_append]
            rw [show tkJ [if (true : Bool) = true then 125 else 93] (quoteL c.name ++ ([58] ++ (textJ d (c :: r) ++ (ka :: kr)))) = none from by rw [hq]; exact tk_ne y (by decide)]
            simp only
            rw [if_pos hm]
            simp only [if_true]
            rw [hmem]
            simp only
            rw [hv c.name rfl]
            simp only
            exact hfin
          · rw [if_neg hm, show ([44] : List UInt8) ++ (quoteL c.name ++ ([58] ++ (textJ d (c :: r) ++ (ka :: kr)))) = 44 :: (quoteL c.name ++ ([58] ++ (textJ d (c :: r) ++ (ka :: kr)))) from rfl]
            rw [show tkJ [if (true : Bool) = true then 125 else 93] (44 :: (quoteL c.name ++ ([58] ++ (textJ d (c :: r) ++ (ka :: kr))))) = none from tk_ne _ (by decide)]
            simp only
            rw [if_neg hm, tk_one', Option.map_some]
            simp only [if_true]
            rw [show blJ (quoteL c.name ++ ([58] ++ (textJ d (c :: r) ++ (ka :: kr)))) = quoteL c.name ++ ([58] ++ (textJ d (c :: r) ++ (ka :: kr))) from by rw [hq]; exact bl_not 34 y (by decide), hmem]
            simp only
            rw [hv c.name rfl]
            simp only
            exact hfin
        | false =>
          simp only [Bool.not_false, okN, if_true, List.isEmpty_iff] at hok
          have hL : kidsJ (valN d) (textJ d) false (n + 1) (m == 0) (c :: r) ++ endJ false :: rest = (if m = 0 then [] else [44]) ++ (textJ d (c :: r) ++ (ka :: kr)) := by
            rw [kidsJ, hk1, Option.getD_some, ← hkh]
            unfold preJ
            by_cases hm : m = 0
            · subst hm; simp
            · have : (m == 0) = false := by simp [hm]
              rw [this]; simp [hm]
          have hfin2 : itemsJ (valJ d) false g (m + 1) nm (blJ (ka :: kr)) (out ++ (c :: r).take k1) = .ok (m + (n + 1), rest, out ++ (c :: r).take (k1 + k2)) := by
            have hk3 : kidsN (valN d) (!false) n nm ((c :: r).drop k1) = some k2 := by
              rw [← hk2]; exact kidsN_names (valN d) n _ _ _
            rw [bl_not ka kr hkb, hrec _ hk3, htake, List.append_assoc]
            congr 2
            omega
          have hvl := hv [] hok.symm
          rw [ht] at hvl
          rw [hL, itemsJ, ht]
          by_cases hm : m = 0
          · rw [if_pos hm, List.nil_append, List.cons_append]
            rw [show tkJ [if (false : Bool) = true then 125 else 93] (a0 :: (r0 ++ (ka :: kr))) = none from tk_ne _ hbeg]
            simp only
            rw [if_pos hm]
            simp only [Bool.false_eq_true, if_false]
            rw [List.cons_append] at hvl
            rw [hvl]
            simp only
            exact hfin2
          · rw [if_neg hm, show ([44] : List UInt8) ++ (a0 :: r0 ++ ka :: kr) = 44 :: (a0 :: (r0 ++ (ka :: kr))) from rfl]
            rw [show tkJ [if (false : Bool) = true then 125 else 93] (44 :: (a0 :: (r0 ++ (ka :: kr)))) = none from tk_ne _ (by decide)]
            simp only
            rw [if_neg hm, tk_one', Option.map_some]
            simp only [Bool.false_eq_true, if_false]
            rw [bl_not a0 _ hbl]
            rw [List.cons_append] at hvl
            rw [hvl]
            simp only
            exact hfin2
    · cases h
theorem kids_ge (d : Nat) (isL isO : Bool) : ∀ (n : Nat) (first : Bool) (nm : List (List UInt8)) (V : List Cel) (k : Nat), kidsN (valN d) isL n nm V = some k → n ≤ (kidsJ (valN d) (textJ d) isO n first V).length
  | 0, first, nm, V, k, h => Nat.zero_le _
  | n + 1, first, nm, [], k, h => by cases h
  | n + 1, first, nm, c :: r, k, h => by
    rw [kidsN] at h
    split at h
    · split at h
      · cases h
      · rename_i k1 hk1
        rw [Option.map_eq_some_iff] at h
        obtain ⟨k2, hk2, rfl⟩ := h
        have ih := kids_ge d isL isO n false _ _ k2 hk2
        obtain ⟨a0, r0, ht, _⟩ := text_head d _ _ hk1
        rw [kidsJ, hk1, Option.getD_some, List.length_append, List.length_append, ht, List.length_cons]
        omega
    · cases h
theorem val_text_step (d : Nat) (ih : ∀ e, d = e + 1 → ValT e) : ValT d := by
  intro V k name rest out h hg hs hl
  obtain ⟨c, r, rfl⟩ : ∃ c r, V = c :: r := by
    cases V with
    | nil => cases d <;> cases h
    | cons c r => exact ⟨c, r, rfl⟩
  have hone : oneC c = true := by
    cases d <;> (first | rw [valN_zero, headN_cons] at h | rw [valN_more, headN_cons] at h) <;> (cases h1 : oneC c with | true => rfl | false => rw [h1] at h; cases h)
  obtain ⟨v1, v2⟩ := valN_le d _ _ h
  have hfull : out.length ≠ 2048 := by omega
  have hgc : GoodC c := hg c (by
    obtain ⟨k', rfl⟩ : ∃ k', k = k' + 1 := ⟨k - 1, by omega⟩
    rw [List.take_succ_cons]; exact List.mem_cons_self ..)
  cases hn : nestC c with
  | false =>
    have hk1 : k = 1 := by
      cases d <;> (first | rw [valN_zero, headN_cons, hone, hn] at h | rw [valN_more, headN_cons, hone, hn] at h) <;> exact (Option.some.inj h).symm
    subst hk1
    have htx : textJ d (c :: r) = litJ c := by
      cases d <;> (first | rw [textJ_zero, headJ_cons, hn] | rw [textJ_more, headJ_cons, hn]) <;> rfl
    obtain ⟨a, r', hl', b1, b2, b3, b4, hleaf⟩ := leaf_good c hone hn hgc name rest out hs
    rw [htx, valJ, hl', bl_not a r' b4]
    simp only [b1, Bool.not_true, Bool.false_eq_true, if_false]
    rw [if_neg hfull, if_neg (by rintro (e | e); exact b2 e; exact b3 e), ← hl', hleaf]
    rfl
  | true =>
    cases d with
    | zero => rw [valN_zero, headN_cons, hone, hn] at h; cases h
    | succ d =>
      rw [valN_more, headN_cons, hone, hn, if_pos rfl, if_pos rfl, Option.map_eq_some_iff] at h
      obtain ⟨k2, hk2, rfl⟩ := h
      rw [textJ_more, headJ_cons, hn, if_pos rfl]
      obtain ⟨kind, nm, text, num, many⟩ := c
      have hkk : kind = 6 ∨ kind = 7 := by
        unfold nestC at hn
        simpa using hn
      have hone2 : text = [] ∧ num = 0 ∧ 0 ≤ many := by
        unfold oneC at hone
        simp only at hone
        rcases hkk with rfl | rfl
        all_goals
          rw [if_neg (by decide), if_neg (by decide), if_neg (by decide), if_neg (by decide), if_neg (by decide), if_pos (by decide)] at hone
          simpa [Bool.and_eq_true, and_assoc] using hone
      obtain ⟨e1, e2, e3⟩ := hone2
      subst e1; subst e2
      have hmany : ((many.toNat : Nat) : Int) = many := Int.toNat_of_nonneg e3
      simp only at hk2 ⊢
      have hgo := fun (isO : Bool) (hc : (!isO) = (kind == 6)) => items_text d (ih d rfl) isO many.toNat 0 [] r k2 rest (out ++ [⟨if isO then 7 else 6, name, [], 0, 0⟩]) ((kidsJ (valN d) (textJ d) isO many.toNat true r ++ endJ isO :: rest).length + 1) (by rw [hc]; exact hk2) (fun x hx => hg x (by
          rw [show (1 + k2) = k2 + 1 from by omega, List.take_succ_cons]; exact List.mem_cons_of_mem _ hx)) (by rw [List.length_append]; simp only [List.length_cons, List.length_nil]; omega) (by
          have := kids_ge d (kind == 6) isO many.toNat true [] r k2 hk2
          rw [List.length_append]; omega)
      have hbl : ∀ isO, (!isO) = (kind == 6) → blJ (kidsJ (valN d) (textJ d) isO many.toNat true r ++ endJ isO :: rest) = kidsJ (valN d) (textJ d) isO many.toNat true r ++ endJ isO :: rest := fun isO hc => bl_head _ fun x hx => by
        cases hmm : many.toNat with
        | zero =>
          rw [hmm, kidsJ, List.nil_append, List.head?_cons] at hx
          injection hx with hx
          rw [← hx]; cases isO <;> decide
        | succ n =>
          rw [hmm] at hx hk2
          cases r with
          | nil => cases hk2
          | cons c2 r2 =>
            rw [kidsJ] at hx
            cases isO with
            | true =>
              have : ((preJ true true (c2 :: r2) ++ (textJ d (c2 :: r2) ++ kidsJ (valN d) (textJ d) true n false ((c2 :: r2).drop ((valN d (c2 :: r2)).getD 0)))) ++ endJ true :: rest).head? = some 34 := rfl
              rw [this] at hx
              injection hx with hx
              rw [← hx]; decide
            | false =>
              rw [kidsN] at hk2
              split at hk2
              · split at hk2
                · cases hk2
                · rename_i k1 hk1
                  obtain ⟨a0, r0, ht, _, hb0⟩ := text_head d _ _ hk1
                  unfold preJ at hx
                  simp only [if_true, Bool.false_eq_true, if_false, List.nil_append, ht, List.cons_append, List.head?_cons] at hx
                  injection hx with hx
                  rw [← hx]; exact hb0
              · cases hk2
      have hend : (⟨kind, nm, [], 0, many⟩ :: r : List Cel).take (1 + k2) = ⟨kind, nm, [], 0, many⟩ :: r.take k2 := by
        rw [show (1 + k2) = k2 + 1 from by omega, List.take_succ_cons]
      rw [hend, renJ]
      rcases hkk with rfl | rfl
      · have h6 := hgo false rfl
        have hb6 := hbl false rfl
        rw [show ((0 : Nat) == 0) = true from rfl] at h6
        show valJ (d + 1) name ([91] ++ (kidsJ (valN d) (textJ d) false many.toNat true r ++ [93]) ++ rest) out = _
        rw [show [91] ++ (kidsJ (valN d) (textJ d) false many.toNat true r ++ [93]) ++ rest = 91 :: (kidsJ (valN d) (textJ d) false many.toNat true r ++ endJ false :: rest) from by simp [endJ]]
        rw [valJ, bl_not 91 _ (by decide)]
        simp only
        rw [if_neg (show ¬ ((!begJ 91) = true) from by decide), if_neg hfull, if_pos (show (91 : UInt8) = 123 ∨ True from Or.inr trivial), show ((91 : UInt8) == 123) = false from by decide, show (if (91 : UInt8) = 123 then (7 : UInt8) else 6) = 6 from by decide]
        rw [hb6, show (if (false : Bool) = true then (7 : UInt8) else 6) = 6 from rfl] at *
        rw [h6]
        simp only
        rw [Nat.zero_add, List.append_assoc, List.singleton_append, modify_app _ _ _ _ _ rfl, hmany]
      · have h7 := hgo true rfl
        have hb7 := hbl true rfl
        rw [show ((0 : Nat) == 0) = true from rfl] at h7
        show valJ (d + 1) name ([123] ++ (kidsJ (valN d) (textJ d) true many.toNat true r ++ [125]) ++ rest) out = _
        rw [show [123] ++ (kidsJ (valN d) (textJ d) true many.toNat true r ++ [125]) ++ rest = 123 :: (kidsJ (valN d) (textJ d) true many.toNat true r ++ endJ true :: rest) from by simp [endJ]]
        rw [valJ, bl_not 123 _ (by decide)]
        simp only
        rw [if_neg (show ¬ ((!begJ 123) = true) from by decide), if_neg hfull, if_pos (show True ∨ (123 : UInt8) = 91 from Or.inl trivial), show ((123 : UInt8) == 123) = true from by decide, if_pos trivial]
        rw [hb7, show (if (true : Bool) = true then (7 : UInt8) else 6) = 7 from rfl] at *
        rw [h7]
        simp only
        rw [Nat.zero_add, List.append_assoc, List.singleton_append, modify_app _ _ _ _ _ rfl, hmany]
theorem val_text : ∀ d : Nat, ValT d
  | 0 => val_text_step 0 fun e h => by omega
  | d + 1 => val_text_step (d + 1) fun e h => by
    have : e = d := by omega
    subst this
    exact val_text e
theorem bl_blanks (B l : List UInt8) (hB : B.all blankJ = true) : blJ (B ++ l) = blJ l := by
  induction B with
  | nil => rfl
  | cons b B ih =>
    rw [List.all_cons, Bool.and_eq_true] at hB
    unfold blJ at ih ⊢
    rw [List.cons_append, List.dropWhile_cons, hB.1, if_pos rfl]
    exact ih hB.2
theorem val_bl (d : Nat) (name l l' : List UInt8) (out : List Cel) (h : blJ l = blJ l') : valJ d name l out = valJ d name l' out := by
  cases d <;> (rw [valJ, valJ, h])
/-- THE LAW: what is written is read as the same value, blanks around it or none. -/
theorem read_text (V : List Cel) (B B' : List UInt8) (hV : plainB V = true) (hR : ∀ c ∈ V, R c.num) (hB : B.all blankJ = true) (hB' : B'.all blankJ = true) : readJ (B ++ (textJ 16 V ++ B')) = .ok V := by
  unfold plainB mayB at hV
  simp only [Bool.and_eq_true, decide_eq_true_eq, beq_iff_eq, List.all_eq_true, Bool.not_eq_true'] at hV
  obtain ⟨⟨⟨⟨h1, h2⟩, h3⟩, h4⟩, h5⟩ := hV
  obtain ⟨a, r, ht, hb, hbl⟩ := text_head 16 V _ h4
  have hs : StopJ B' := fun c hc => by
    have hcb : blankJ c = true := by
      cases B' with
      | nil => cases hc
      | cons x y =>
        injection hc with hc
        subst hc
        rw [List.all_cons, Bool.and_eq_true] at hB'
        exact hB'.1
    unfold blankJ at hcb
    simp only [Bool.or_eq_true, beq_iff_eq] at hcb
    rcases hcb with ((rfl | rfl) | rfl) | rfl <;> decide
  have hv := val_text 16 V V.length [] B' [] h4 (by
    rw [List.take_length]
    exact fun x hx => ⟨h5 x hx, hR x hx⟩) hs (by simpa using h2)
  unfold readJ
  rw [val_bl 16 [] (B ++ (textJ 16 V ++ B')) (textJ 16 V ++ B') [] (bl_blanks B _ hB), hv]
  simp only
  have hbe : blJ B' = [] := by
    have := bl_blanks B' [] hB'
    rw [List.append_nil] at this
    exact this
  rw [hbe, List.isEmpty_nil, if_pos rfl, List.nil_append, List.take_length]
  cases V with
  | nil => simp at h1
  | cons c r =>
    rw [renJ]
    have : c.name = [] := by simpa using h3
    rw [← this]
end Go.Proofs.YtgclnjogoghhcaaGreatDoor
namespace Go.Proofs.YtgclnjogoghhcaaGreatDoor
open Go.Lib
theorem valid_ascii : ∀ (l r : List UInt8), (∀ c ∈ l, c.toNat < 128) → validD (l ++ r) = validD r
  | [], r, _ => rfl
  | c :: l, r, h => by
    rw [List.cons_append, valid_cons c _ (h c (by simp)), valid_ascii l r fun x hx => h x (by simp [hx])]
theorem quoteC_ascii (c : UInt8) (h : c.toNat < 128) : ∀ x ∈ quoteC c, x.toNat < 128 := by
  have := (by decide +kernel : ∀ i : Fin 256, i.val < 128 → (quoteC (UInt8.ofNat i.val)).all (fun x => decide (x.toNat < 128)) = true) ⟨c.toNat, UInt8.toNat_lt c⟩ h
  simp only [UInt8.ofNat_toNat] at this
  exact fun x hx => of_decide_eq_true (List.all_eq_true.1 this x hx)
theorem valid_enc (p : Nat) (hp : isPt p = true) (r : List UInt8) : validD (encN p ++ r) = validD r := by
  have hd := decode_enc p hp r
  have hpos : 0 < (encN p).length := by rw [enc_len p hp]; repeat' split
                                        all_goals decide
  have hne : encN p ++ r ≠ [] := by
    intro h
    have := congrArg List.length h
    rw [List.length_append, List.length_nil] at this
    omega
  rw [valid_step _ hne]
  have hw : wellB (encN p ++ r) = true := by
    unfold wellB
    rw [hd]
    simp only [Bool.not_eq_true', decide_eq_false_iff_not]
    rintro ⟨h1, h2⟩
    rw [enc_len p hp, h1] at h2
    exact absurd h2 (by decide)
  rw [hw, Bool.true_and, hd]
  simp only [List.drop_left]
theorem valid_quote : ∀ (n : Nat) (t r : List UInt8), t.length ≤ n → validD t = true → validD (t.flatMap quoteC ++ r) = validD r
  | n, [], r, _, _ => rfl
  | 0, c :: t, r, hn, _ => by simp at hn
  | n + 1, c :: t, r, hn, hv => by
    simp only [List.length_cons] at hn
    by_cases hc : c.toNat < 128
    · have hv2 : validD t = true := by rw [valid_cons c t hc] at hv; exact hv
      rw [List.flatMap_cons, List.append_assoc, valid_ascii _ _ (quoteC_ascii c hc), valid_quote n t r (by omega) hv2]
    · have hs := valid_step (c :: t) (by simp)
      rw [hv] at hs
      have hs2 := hs.symm
      rw [Bool.and_eq_true] at hs2
      obtain ⟨hw, hv2⟩ := hs2
      obtain ⟨d1, d2, d3, d4⟩ := decode_pt (c :: t) (by simp) hw
      obtain ⟨p, hp⟩ : ∃ p, (decodeL (c :: t)).1 = p := ⟨_, rfl⟩
      obtain ⟨m, hm⟩ : ∃ m, (decodeL (c :: t)).2 = m := ⟨_, rfl⟩
      rw [hp, hm] at d4
      rw [hp] at d1
      rw [hm] at d2 d3 hv2
      have hsplit : c :: t = encN p ++ (c :: t).drop m := by rw [d4, List.take_append_drop]
      have hp128 : 128 ≤ p := by
        rcases Nat.lt_or_ge p 128 with h | h
        · have h1 : encN p = [UInt8.ofNat p] := by unfold encN; rw [if_pos h]
          rw [h1] at hsplit
          injection hsplit with h2 h3
          rw [h2, ofN p (by omega)] at hc
          exact absurd h hc
        · exact h
      have hdl : ((c :: t).drop m).length = t.length + 1 - m := by rw [List.length_drop]; rfl
      have hfm : (c :: t).flatMap quoteC = encN p ++ ((c :: t).drop m).flatMap quoteC := by
        conv => lhs; rw [hsplit]
        rw [List.flatMap_append, big_all _ (enc_big p d1 hp128)]
      rw [hfm, List.append_assoc, valid_enc p d1, valid_quote n _ r (by omega) hv2]
theorem valid_quoteL (t r : List UInt8) (hv : validD t = true) : validD (quoteL t ++ r) = validD r := by
  unfold quoteL
  rw [show [34] ++ t.flatMap quoteC ++ [34] ++ r = 34 :: (t.flatMap quoteC ++ 34 :: r) from by simp]
  rw [valid_cons 34 _ (by decide), valid_quote t.length t _ (Nat.le_refl _) hv, valid_cons 34 _ (by decide)]
theorem itoa_ascii (n : Int) : ∀ c ∈ Lib.itoa n, c.toNat < 128 := by
  have h := (read_itoa n).1
  unfold okDigits digitsB at h
  simp only [Bool.and_eq_true, List.all_eq_true] at h
  intro c hc
  have hb : ∀ x ∈ body (Lib.itoa n), isDig x = true := h.1.1
  by_cases h45 : c = 45
  · subst h45; decide
  · refine dig_ascii c (hb c ?_)
    unfold body
    split
    · rename_i hbl
      cases hi : Lib.itoa n with
      | nil => rw [hi] at hc; cases hc
      | cons x y =>
        rw [hi] at hc hbl
        unfold below at hbl
        simp only [beq_iff_eq] at hbl
        rcases List.mem_cons.1 hc with e | e
        · exact absurd (e.trans hbl) h45
        · exact e
    · exact hc
theorem valid_lit (c : Cel) (h1 : oneC c = true) (hn : nestC c = false) (hg : GoodC c) (r : List UInt8) : validD (litJ c ++ r) = validD r := by
  obtain ⟨he, _⟩ := hg
  unfold nestC at hn
  simp only [Bool.or_eq_false_iff, beq_eq_false_iff_ne] at hn he
  unfold oneC at h1
  unfold litJ
  by_cases k0 : c.kind = 0
  · rw [if_pos k0]; exact valid_ascii _ _ (by decide)
  rw [if_neg k0] at h1 ⊢
  by_cases k1 : c.kind = 1
  · rw [if_pos k1]
    split
    · exact valid_ascii _ _ (by decide)
    · exact valid_ascii _ _ (by decide)
  rw [if_neg k1] at h1 ⊢
  by_cases k2 : c.kind = 2
  · rw [if_pos k2]; exact valid_ascii _ _ (itoa_ascii _)
  rw [if_neg k2] at h1 ⊢
  by_cases k3 : c.kind = 3
  · rw [if_pos k3] at h1
    simp only [Bool.and_eq_true] at h1
    unfold textB at h1
    rw [Bool.and_eq_true] at h1
    exact valid_quoteL _ _ h1.1.1.2
  rw [if_neg k3, if_neg (by rintro (e | e); exact he.1 e; exact he.2 e), if_neg (by rintro (e | e); exact hn.1 e; exact hn.2 e)] at h1
  cases h1
def ValV (d : Nat) : Prop := ∀ (V : List Cel) (k : Nat) (r : List UInt8), valN d V = some k → (∀ x ∈ V.take k, GoodC x) → validD (textJ d V ++ r) = validD r
theorem valid_kids (d : Nat) (ih : ValV d) (isO : Bool) : ∀ (n : Nat) (first : Bool) (nm : List (List UInt8)) (V : List Cel) (k : Nat) (r : List UInt8), kidsN (valN d) (!isO) n nm V = some k → (∀ x ∈ V.take k, GoodC x) → validD (kidsJ (valN d) (textJ d) isO n first V ++ r) = validD r
  | 0, first, nm, V, k, r, h, hg => rfl
  | n + 1, first, nm, [], k, r, h, hg => by cases h
  | n + 1, first, nm, c :: t, k, r, h, hg => by
    rw [kidsN] at h
    split at h
    · rename_i hok
      split at h
      · cases h
      · rename_i k1 hk1
        rw [Option.map_eq_some_iff] at h
        obtain ⟨k2, hk2, rfl⟩ := h
        have htake : (c :: t).take (k1 + k2) = (c :: t).take k1 ++ ((c :: t).drop k1).take k2 := List.take_add
        rw [kidsJ, hk1, Option.getD_some, List.append_assoc, List.append_assoc]
        have hpre : ∀ x, validD (preJ isO first (c :: t) ++ x) = validD x := fun x => by
          unfold preJ
          rw [List.append_assoc]
          have hb : ∀ y, validD ((if isO then quoteL ((c :: t).headD ⟨0, [], [], 0, 0⟩).name ++ [58] else []) ++ y) = validD y := fun y => by
            cases isO with
            | false => rfl
            | true =>
              simp only [Bool.not_true, okN, Bool.false_eq_true, if_false, Bool.and_eq_true] at hok
              have htx := hok.1.2
              unfold textB at htx
              rw [Bool.and_eq_true] at htx
              simp only [if_true, List.headD_cons]
              rw [List.append_assoc, valid_quoteL _ _ htx.2]
              exact valid_cons 58 y (by decide)
          cases first with
          | true => exact hb x
          | false =>
            show validD ([44] ++ _) = _
            rw [show ∀ z : List UInt8, ([44] : List UInt8) ++ z = 44 :: z from fun z => rfl, valid_cons 44 _ (by decide)]
            exact hb x
        rw [hpre, ih (c :: t) k1 _ hk1 (fun x hx => hg x (by rw [htake]; exact List.mem_append_left _ hx))]
        exact valid_kids d ih isO n false _ _ k2 r hk2 (fun x hx => hg x (by rw [htake]; exact List.mem_append_right _ hx))
    · cases h
theorem valid_text_step (d : Nat) (ih : ∀ e, d = e + 1 → ValV e) : ValV d := by
  intro V k r h hg
  obtain ⟨c, t, rfl⟩ : ∃ c t, V = c :: t := by
    cases V with
    | nil => cases d <;> cases h
    | cons c t => exact ⟨c, t, rfl⟩
  have hone : oneC c = true := by
    cases d <;> (first | rw [valN_zero, headN_cons] at h | rw [valN_more, headN_cons] at h) <;> (cases h1 : oneC c with | true => rfl | false => rw [h1] at h; cases h)
  obtain ⟨v1, v2⟩ := valN_le d _ _ h
  have hgc : GoodC c := hg c (by
    obtain ⟨k', rfl⟩ : ∃ k', k = k' + 1 := ⟨k - 1, by omega⟩
    rw [List.take_succ_cons]; exact List.mem_cons_self ..)
  cases hn : nestC c with
  | false =>
    have htx : textJ d (c :: t) = litJ c := by
      cases d <;> (first | rw [textJ_zero, headJ_cons, hn] | rw [textJ_more, headJ_cons, hn]) <;> rfl
    rw [htx]; exact valid_lit c hone hn hgc r
  | true =>
    cases d with
    | zero => rw [valN_zero, headN_cons, hone, hn] at h; cases h
    | succ d =>
      rw [valN_more, headN_cons, hone, hn, if_pos rfl, if_pos rfl, Option.map_eq_some_iff] at h
      obtain ⟨k2, hk2, rfl⟩ := h
      rw [textJ_more, headJ_cons, hn, if_pos rfl, List.append_assoc, List.append_assoc]
      rw [valid_ascii _ _ (by cases c.kind == 6 <;> decide)]
      rw [valid_kids d (ih d rfl) (!(c.kind == 6)) _ true [] t k2 _ (by rw [Bool.not_not]; exact hk2) (fun x hx => hg x (by
        rw [show (1 + k2) = k2 + 1 from by omega, List.take_succ_cons]; exact List.mem_cons_of_mem _ hx))]
      exact valid_ascii _ _ (by cases c.kind == 6 <;> decide)
theorem valid_text : ∀ d : Nat, ValV d
  | 0 => valid_text_step 0 fun e h => by omega
  | d + 1 => valid_text_step (d + 1) fun e h => by
    have : e = d := by omega
    subst this
    exact valid_text e
theorem plain_good (V : List Cel) (hV : plainB V = true) (hR : ∀ c ∈ V, R c.num) : valN 16 V = some V.length ∧ (∀ x ∈ V.take V.length, GoodC x) := by
  unfold plainB mayB at hV
  simp only [Bool.and_eq_true, decide_eq_true_eq, beq_iff_eq, List.all_eq_true, Bool.not_eq_true'] at hV
  refine ⟨hV.1.2, ?_⟩
  rw [List.take_length]
  exact fun x hx => ⟨hV.2 x hx, hR x hx⟩
theorem blank_asc (B : List UInt8) (hB : B.all blankJ = true) : ∀ c ∈ B, c.toNat < 128 := fun c hc => blank_ascii c (List.all_eq_true.1 hB c hc)
/-- What is written is a text that is read as the same value, blanks around it or none. -/
theorem back_read (V : List Cel) (B B' : List UInt8) (hV : plainB V = true) (hR : ∀ c ∈ V, R c.num) (hB : B.all blankJ = true) (hB' : B'.all blankJ = true) :
    validD (B ++ (textJ 16 V ++ B')) = true ∧ readJ (B ++ (textJ 16 V ++ B')) = .ok V := by
  obtain ⟨g1, g2⟩ := plain_good V hV hR
  refine ⟨?_, read_text V B B' hV hR hB hB'⟩
  rw [valid_ascii B _ (blank_asc B hB), valid_text 16 V V.length B' g1 g2]
  have := valid_ascii B' [] (blank_asc B' hB')
  rw [List.append_nil] at this
  rw [this]
  rfl
end Go.Proofs.YtgclnjogoghhcaaGreatDoor
namespace Go.Proofs.YtgclnjogoghhcaaGreatDoor
open Go.Lib
/-- What stands behind a token: nothing, or what no token goes on with. -/
def BlankR (r : List UInt8) : Prop := ∀ c, r.head? = some c → nameC c = false ∧ c ≠ 46 ∧ c ≠ 34
theorem while_stop (p : UInt8 → Bool) : ∀ (l r : List UInt8), (∀ c ∈ l, p c = true) → (∀ c, r.head? = some c → p c = false) → (l ++ r).takeWhile p = l ∧ (l ++ r).dropWhile p = r
  | [], r, _, hr => by
    cases r with
    | nil => exact ⟨rfl, rfl⟩
    | cons c r =>
      have := hr c rfl
      rw [List.nil_append, List.takeWhile_cons, List.dropWhile_cons, this]
      exact ⟨rfl, rfl⟩
  | c :: l, r, h, hr => by
    obtain ⟨h1, h2⟩ := while_stop p l r (fun x hx => h x (by simp [hx])) hr
    have := h c (by simp)
    rw [List.cons_append, List.takeWhile_cons, List.dropWhile_cons, this, if_pos rfl, if_pos rfl, h1, h2]
    exact ⟨rfl, rfl⟩
theorem name_dig : ∀ c : UInt8, nameC c = false → isDig c = false := by
  intro c h
  have hall := (by decide +kernel : ∀ i : Fin 256, nameC (UInt8.ofNat i.val) = false → isDig (UInt8.ofNat i.val) = false) ⟨c.toNat, UInt8.toNat_lt c⟩
  simp only [UInt8.ofNat_toNat] at hall
  exact hall h
theorem nameT_no (c : UInt8) (r : List UInt8) (h : nameC c = false ∨ isDig c = true) : nameT (c :: r) = none := by
  unfold nameT
  simp only
  rw [List.takeWhile_cons]
  cases hc : nameC c with
  | false => rfl
  | true =>
    have hd : isDig c = true := by
      rcases h with h | h
      · rw [hc] at h; cases h
      · exact h
    rw [if_pos rfl]
    simp only [nameB, hd, Bool.not_true, Bool.false_and, Bool.false_eq_true, if_false]
theorem numT_no (c : UInt8) (r : List UInt8) (h : isDig c = false) (h2 : c ≠ 45) : numTk (c :: r) = none := by
  unfold numTk
  have hb : below (c :: r) = false := by unfold below; exact beq_eq_false_iff_ne.2 h2
  have hbo : body (c :: r) = c :: r := by unfold body; rw [hb]; rfl
  simp only
  rw [hbo, List.takeWhile_cons, h]
  rfl
theorem txtT_no (c : UInt8) (r : List UInt8) (h : c ≠ 34) : txtT (c :: r) = none := by
  unfold txtT
  simp only
  rw [if_pos (Or.inl h)]
theorem tok_name (t r : List UInt8) (ht : nameB t = true) (hr : BlankR r) : tokG (t ++ r) = some (1, t, t.length) := by
  have hall : ∀ c ∈ t, nameC c = true := by
    cases t with
    | nil => cases ht
    | cons c t =>
      unfold nameB at ht
      rw [Bool.and_eq_true] at ht
      exact fun x hx => List.all_eq_true.1 ht.2 x hx
  have hw := (while_stop nameC t r hall (fun c hc => (hr c hc).1)).1
  unfold tokG nameT
  simp only
  rw [hw, if_pos ht]
theorem tok_num (t r : List UInt8) (ht : okDigits (body t) = true) (hr : BlankR r) : tokG (t ++ r) = some (2, t, t.length) := by
  have hd : digitsB (body t) = true := by unfold okDigits at ht; rw [Bool.and_eq_true] at ht; exact ht.1
  have hall : (body t).all isDig = true := by unfold digitsB at hd; rw [Bool.and_eq_true] at hd; exact hd.1
  have hne : body t ≠ [] := by
    intro h
    rw [h] at hd; exact absurd hd (by decide)
  obtain ⟨c, t', rfl⟩ : ∃ c t', t = c :: t' := by
    cases t with
    | nil => exact absurd rfl hne
    | cons c t' => exact ⟨c, t', rfl⟩
  have hbl : below (c :: t' ++ r) = below (c :: t') := rfl
  have hbo : body (c :: t' ++ r) = body (c :: t') ++ r := by
    unfold body
    rw [hbl]
    cases hx : below (c :: t') with
    | true => rfl
    | false => rfl
  have hc : nameC c = false ∨ isDig c = true := by
    by_cases h45 : c = 45
    · left; subst h45; decide
    · right
      have : below (c :: t') = false := by unfold below; exact beq_eq_false_iff_ne.2 h45
      unfold body at hall
      rw [this] at hall
      simp only [Bool.false_eq_true, if_false, List.all_cons, Bool.and_eq_true] at hall
      exact hall.1
  have hsg : (if below (c :: t') then ([45] : List UInt8) else []) ++ body (c :: t') = c :: t' := by
    unfold body
    by_cases h45 : c = 45
    · subst h45; rfl
    · have : below (c :: t') = false := by unfold below; exact beq_eq_false_iff_ne.2 h45
      rw [this]; rfl
  obtain ⟨w1, w2⟩ := while_stop isDig (body (c :: t')) r (fun x hx => List.all_eq_true.1 hall x hx) (fun c hc => name_dig c (hr c hc).1)
  have hn : numTk (c :: t' ++ r) = some (c :: t') := by
    unfold numTk
    simp only
    rw [hbo, w1, w2, hbl, ht, hsg]
    have : (r.head?.map fun c => nameC c || c == 46).getD false = false := by
      cases r with
      | nil => rfl
      | cons a r =>
        obtain ⟨q1, q2, _⟩ := hr a rfl
        have q3 : (a == 46) = false := beq_eq_false_iff_ne.2 q2
        simp [q1, q3]
    rw [this]
    rfl
  unfold tokG
  rw [List.cons_append] at hn ⊢
  rw [nameT_no c _ hc, hn]
theorem scan_quote (c : UInt8) (X : List UInt8) : scanT false (quoteC c ++ X) = (scanT false X).map fun x => (quoteC c ++ x.1, x.2 + (quoteC c).length) := by
  have raw : ∀ (a : UInt8) (Y : List UInt8), a ≠ 34 → a ≠ 92 → a ≠ 9 → scanT false (a :: Y) = (scanT false Y).map fun x => (a :: x.1, x.2 + 1) := fun a Y h1 h2 h3 => by
    rw [scanT]
    have e1 : (a == 34) = false := beq_eq_false_iff_ne.2 h1
    have e2 : (a == 92) = false := beq_eq_false_iff_ne.2 h2
    have e3 : (a == 9) = false := beq_eq_false_iff_ne.2 h3
    simp [e1, e2, e3]
  have bs : ∀ (a : UInt8) (Y : List UInt8), scanT false (92 :: a :: Y) = (scanT false Y).map fun x => (92 :: a :: x.1, x.2 + 2) := fun a Y => by
    rw [scanT, show (!false && (92 : UInt8) == 34) = false from by decide, show (!false && (92 : UInt8) == 92) = true from by decide, scanT]
    simp only [Bool.not_true, Bool.false_and, Bool.false_eq_true, if_false, Bool.and_false]
    rw [show (((92 : UInt8) == 9) && !false) = false from by decide]
    cases scanT false Y with
    | none => rfl
    | some x => rfl
  unfold quoteC
  split
  · rename_i h
    rw [show [92, c] ++ X = 92 :: c :: X from rfl, bs]
    cases scanT false X <;> rfl
  · rename_i h34
    split
    · rw [show [92, 98] ++ X = 92 :: 98 :: X from rfl, bs]; cases scanT false X <;> rfl
    · split
      · rw [show [92, 116] ++ X = 92 :: 116 :: X from rfl, bs]; cases scanT false X <;> rfl
      · rename_i h9
        split
        · rw [show [92, 110] ++ X = 92 :: 110 :: X from rfl, bs]; cases scanT false X <;> rfl
        · split
          · rw [show [92, 102] ++ X = 92 :: 102 :: X from rfl, bs]; cases scanT false X <;> rfl
          · split
            · rw [show [92, 114] ++ X = 92 :: 114 :: X from rfl, bs]; cases scanT false X <;> rfl
            · split
              · rename_i h32
                have hx : ∀ n : Nat, n < 16 → hexD n ≠ 34 ∧ hexD n ≠ 92 ∧ hexD n ≠ 9 := fun n hn => (by decide +kernel : ∀ i : Fin 16, hexD i.val ≠ 34 ∧ hexD i.val ≠ 92 ∧ hexD i.val ≠ 9) ⟨n, hn⟩
                obtain ⟨a1, a2, a3⟩ := hx (c.toNat / 16) (by omega)
                obtain ⟨b1, b2, b3⟩ := hx (c.toNat % 16) (by omega)
                rw [show [92, 117, 48, 48, hexD (c.toNat / 16), hexD (c.toNat % 16)] ++ X = 92 :: 117 :: 48 :: 48 :: hexD (c.toNat / 16) :: hexD (c.toNat % 16) :: X from rfl, bs]
                rw [raw 48 _ (by decide) (by decide) (by decide), raw 48 _ (by decide) (by decide) (by decide), raw _ _ a1 a2 a3, raw _ _ b1 b2 b3]
                cases scanT false X <;> rfl
              · rw [show [c] ++ X = c :: X from rfl, raw c X (fun e => h34 (Or.inl e)) (fun e => h34 (Or.inr e)) h9]
                cases scanT false X <;> rfl
theorem scan_all : ∀ (t r : List UInt8), scanT false (t.flatMap quoteC ++ 34 :: r) = some (t.flatMap quoteC, (t.flatMap quoteC).length + 1)
  | [], r => rfl
  | c :: t, r => by
    rw [List.flatMap_cons, List.append_assoc, scan_quote, scan_all t r, Option.map_some, List.length_append]
    congr 2
    omega
theorem json_quote (t : List UInt8) (hv : validD t = true) (hl : (quoteL t).length ≤ 16384) : jsonT (quoteL t) = .ok [⟨3, [], t, 0, 0⟩] := by
  have htx : textB t = true := by
    unfold textB
    have := flat_quote_len t
    unfold quoteL at hl
    simp only [List.length_append, List.length_cons, List.length_nil] at hl
    rw [hv, decide_eq_true (by omega)]; rfl
  have hp : plainB [⟨3, [], t, 0, 0⟩] = true := by
    unfold plainB mayB
    have hone : oneC ⟨3, [], t, 0, 0⟩ = true := by
      unfold oneC
      simp only
      rw [if_neg (by decide), if_neg (by decide), if_neg (by decide), if_pos (by decide), htx]; rfl
    have hvn : valN 16 [⟨3, [], t, 0, 0⟩] = some 1 := by
      rw [show (16 : Nat) = 15 + 1 from rfl, valN_more, headN_cons, hone]
      rfl
    rw [hvn]
    rfl
  obtain ⟨b1, b2⟩ := back_read [⟨3, [], t, 0, 0⟩] [] [] hp (fun c hc => by rw [List.mem_singleton] at hc; subst hc; show R 0; exact ⟨by omega, by omega⟩) rfl rfl
  have htj : textJ 16 [⟨3, [], t, 0, 0⟩] = quoteL t := by
    rw [show (16 : Nat) = 15 + 1 from rfl, textJ_more, headJ_cons]
    rfl
  rw [htj, List.nil_append, List.append_nil] at b1 b2
  unfold jsonT
  rw [if_neg (by omega), b1, b2]
  rfl
theorem tok_text (t r : List UInt8) (hv : validD t = true) (hl : (quoteL t).length ≤ 16384) (hr : BlankR r) : tokG (quoteL t ++ r) = some (3, t, (quoteL t).length) := by
  have he : quoteL t ++ r = 34 :: (t.flatMap quoteC ++ 34 :: r) := by unfold quoteL; simp
  have hpre : ([34, 34, 34] : List UInt8).isPrefixOf (34 :: (t.flatMap quoteC ++ 34 :: r)) = false := by
    cases t with
    | nil =>
      cases r with
      | nil => rfl
      | cons a r =>
        obtain ⟨_, _, q3⟩ := hr a rfl
        have : ((34 : UInt8) == a) = false := beq_eq_false_iff_ne.2 (Ne.symm q3)
        simp [List.isPrefixOf, this]
    | cons c t =>
      rw [List.flatMap_cons]
      obtain ⟨a, q, hq, ha⟩ : ∃ a q, quoteC c = a :: q ∧ a ≠ 34 := by
        unfold quoteC
        split
        · exact ⟨92, _, rfl, by decide⟩
        · rename_i h
          repeat' split
          all_goals first
            | exact ⟨92, _, rfl, by decide⟩
            | exact ⟨c, _, rfl, fun e => h (Or.inl e)⟩
      rw [hq]
      have : ((34 : UInt8) == a) = false := beq_eq_false_iff_ne.2 (Ne.symm ha)
      simp [List.isPrefixOf, this]
  have htx : txtT (34 :: (t.flatMap quoteC ++ 34 :: r)) = some (t, (quoteL t).length) := by
    unfold txtT
    simp only
    rw [if_neg (by rintro (h | h); exact h rfl; rw [hpre] at h; cases h), scan_all]
    simp only
    have : 34 :: (t.flatMap quoteC ++ [34]) = quoteL t := by unfold quoteL; simp
    rw [this, json_quote t hv hl]
    simp only [List.headD_cons]
    congr 2
    unfold quoteL
    simp only [List.length_append, List.length_cons, List.length_nil]
    omega
  rw [he]
  unfold tokG
  rw [nameT_no 34 _ (Or.inl (by decide)), numT_no 34 _ (by decide) (by decide), htx]
theorem tok_mark (t r : List UInt8) (ht : markB t = true) (hr : BlankR r) : tokG (t ++ r) = some (4, t, t.length) := by
  unfold markB at ht
  rw [Bool.or_eq_true, beq_iff_eq] at ht
  rcases ht with rfl | ht
  · unfold tokG
    rw [show ([46, 46, 46] : List UInt8) ++ r = 46 :: 46 :: 46 :: r from rfl, nameT_no 46 _ (Or.inl (by decide)), numT_no 46 _ (by decide) (by decide), txtT_no 46 _ (by decide)]
    unfold punT
    rw [if_pos (by simp [List.isPrefixOf])]
    rfl
  · obtain ⟨c, rfl⟩ : ∃ c, t = [c] := by
      cases t with
      | nil => cases ht
      | cons c t =>
        cases t with
        | nil => exact ⟨c, rfl⟩
        | cons a b => cases ht
    have hm : marksL.contains c = true := ht
    have hall := (by decide +kernel : ∀ i : Fin 256, marksL.contains (UInt8.ofNat i.val) = true → nameC (UInt8.ofNat i.val) = false ∧ isDig (UInt8.ofNat i.val) = false ∧ UInt8.ofNat i.val ≠ 45 ∧ UInt8.ofNat i.val ≠ 34 ∧ UInt8.ofNat i.val ≠ 46) ⟨c.toNat, UInt8.toNat_lt c⟩
    simp only [UInt8.ofNat_toNat] at hall
    obtain ⟨e1, e2, e3, e4, e5⟩ := hall hm
    unfold tokG
    rw [show ([c] : List UInt8) ++ r = c :: r from rfl, nameT_no c _ (Or.inl e1), numT_no c _ e2 e3, txtT_no c _ e4]
    unfold punT
    have : ((46 : UInt8) == c) = false := beq_eq_false_iff_ne.2 (Ne.symm e5)
    rw [if_neg (by simp [List.isPrefixOf, this])]
    simp only
    rw [hm, if_pos rfl]
    rfl
/-- A token that may be stands at the beginning of its own text, whatever blank comes behind. -/
theorem tok_of (t : Tok) (r : List UInt8) (ht : okT t = true) (hk : t.kind ≠ 0) (hl : (tellT t).length ≤ 16384) (hr : BlankR r) : tokG (tellT t ++ r) = some (t.kind, t.text, (tellT t).length) := by
  unfold okT at ht
  rw [if_neg hk] at ht
  unfold tellT at hl ⊢
  by_cases k1 : t.kind = 1
  · rw [if_pos k1] at ht
    rw [if_neg (by rw [k1]; decide), tok_name _ _ ht hr, k1]
  rw [if_neg k1] at ht
  by_cases k2 : t.kind = 2
  · rw [if_pos k2] at ht
    rw [if_neg (by rw [k2]; decide), tok_num _ _ ht hr, k2]
  rw [if_neg k2] at ht
  by_cases k3 : t.kind = 3
  · rw [if_pos k3] at ht hl ⊢
    unfold textB at ht
    rw [Bool.and_eq_true] at ht
    rw [tok_text _ _ ht.2 hl hr, k3]
  rw [if_neg k3] at ht ⊢
  by_cases k4 : t.kind = 4
  · rw [if_pos k4] at ht
    rw [tok_mark _ _ ht hr, k4]
  · rw [if_neg k4] at ht; cases ht
end Go.Proofs.YtgclnjogoghhcaaGreatDoor
namespace Go.Proofs.YtgclnjogoghhcaaGreatDoor
open Go.Lib
theorem hid_more : ∀ (n f : Nat) (l : List UInt8), l.length ≤ n → l.length ≤ f → hidG f l = hid0 l
  | 0, f, l, h, hf => by
    have : l = [] := List.length_eq_zero_iff.1 (by omega)
    subst this
    cases f <;> rfl
  | n + 1, f, [], h, hf => by cases f <;> rfl
  | n + 1, f + 1, c :: r, h, hf => by
    simp only [List.length_cons] at h hf
    unfold hid0
    rw [List.length_cons]
    simp only [hidG]
    by_cases hc : hidC c = true
    · rw [if_pos hc, if_pos hc, hid_more n f r (by omega) (by omega), hid_more n r.length r (by omega) (by omega)]
    · rw [if_neg hc, if_neg hc]
      by_cases hb : bomL.isPrefixOf (c :: r) = true
      · rw [if_pos hb, if_pos hb]
        have hd : ((c :: r).drop 3).length ≤ r.length := by simp only [List.length_drop, List.length_cons]; omega
        rw [hid_more n f _ (by omega) (by omega), hid_more n r.length _ (by omega) (by omega)]
      · rw [if_neg hb, if_neg hb]
theorem hid_cons (c : UInt8) (r : List UInt8) : hid0 (c :: r) = if hidC c then hid0 r else if bomL.isPrefixOf (c :: r) then hid0 ((c :: r).drop 3) else c :: r := by
  have hd : ((c :: r).drop 3).length ≤ r.length := by simp only [List.length_drop, List.length_cons]; omega
  rw [show hid0 (c :: r) = hidG (r.length + 1) (c :: r) from rfl]
  simp only [hidG]
  rw [hid_more r.length r.length r (Nat.le_refl _) (Nat.le_refl _), hid_more r.length r.length _ hd hd]
/-- A byte that a token begins with. -/
def begC (c : UInt8) : Bool := !hidC c && c != 35 && c != 239
theorem hid_beg (c : UInt8) (r : List UInt8) (h : begC c = true) : hid0 (c :: r) = c :: r := by
  unfold begC at h
  simp only [Bool.and_eq_true, Bool.not_eq_true', bne_iff_ne] at h
  have : ((239 : UInt8) == c) = false := beq_eq_false_iff_ne.2 (Ne.symm h.2)
  rw [hid_cons, h.1.1, if_neg (by decide), if_neg (by simp [bomL, List.isPrefixOf, this])]
theorem skip_of (l : List UInt8) (c : UInt8) (r : List UInt8) (h : hid0 l = c :: r) (hc : c ≠ 35) : skip0 l = (c :: r, true) := by
  unfold skip0
  simp only [skipG]
  rw [h]
  simp only
  rw [if_neg hc]
theorem skip_nil (l : List UInt8) (h : hid0 l = []) : skip0 l = ([], true) := by
  unfold skip0
  simp only [skipG]
  rw [h]
theorem skip_beg (c : UInt8) (r : List UInt8) (h : begC c = true) : skip0 (c :: r) = (c :: r, true) := by
  refine skip_of _ c r (hid_beg c r h) ?_
  unfold begC at h
  simp only [Bool.and_eq_true, Bool.not_eq_true', bne_iff_ne] at h
  exact h.1.2
theorem skip_blank (c : UInt8) (r : List UInt8) (h : begC c = true) : skip0 (32 :: c :: r) = (c :: r, true) := by
  refine skip_of _ c r ?_ ?_
  · rw [hid_cons, if_pos (by decide), hid_beg c r h]
  · unfold begC at h
    simp only [Bool.and_eq_true, Bool.not_eq_true', bne_iff_ne] at h
    exact h.1.2
theorem beg_name : ∀ c : UInt8, nameC c = true → begC c = true ∧ c.toNat < 128 := by
  intro c h
  have hall := (by decide +kernel : ∀ i : Fin 256, nameC (UInt8.ofNat i.val) = true → begC (UInt8.ofNat i.val) = true ∧ (UInt8.ofNat i.val).toNat < 128) ⟨c.toNat, UInt8.toNat_lt c⟩
  simp only [UInt8.ofNat_toNat] at hall
  exact hall h
theorem dig_name : ∀ c : UInt8, isDig c = true → nameC c = true := by
  intro c h
  have hall := (by decide +kernel : ∀ i : Fin 256, isDig (UInt8.ofNat i.val) = true → nameC (UInt8.ofNat i.val) = true) ⟨c.toNat, UInt8.toNat_lt c⟩
  simp only [UInt8.ofNat_toNat] at hall
  exact hall h
theorem beg_mark : ∀ c : UInt8, marksL.contains c = true → begC c = true ∧ c.toNat < 128 := by
  intro c h
  have hall := (by decide +kernel : ∀ i : Fin 256, marksL.contains (UInt8.ofNat i.val) = true → begC (UInt8.ofNat i.val) = true ∧ (UInt8.ofNat i.val).toNat < 128) ⟨c.toNat, UInt8.toNat_lt c⟩
  simp only [UInt8.ofNat_toNat] at hall
  exact hall h
theorem num_bytes (t : List UInt8) (ht : okDigits (body t) = true) : ∀ c ∈ t, begC c = true ∧ c.toNat < 128 := by
  have hd : digitsB (body t) = true := by unfold okDigits at ht; rw [Bool.and_eq_true] at ht; exact ht.1
  have hall : (body t).all isDig = true := by unfold digitsB at hd; rw [Bool.and_eq_true] at hd; exact hd.1
  intro c hc
  have hb : ∀ x ∈ body t, begC x = true ∧ x.toNat < 128 := fun x hx => beg_name x (dig_name x (List.all_eq_true.1 hall x hx))
  by_cases h45 : c = 45
  · subst h45; exact ⟨by decide, by decide⟩
  · refine hb c ?_
    cases t with
    | nil => exact hc
    | cons a t =>
      unfold body
      cases hx : below (a :: t) with
      | false => exact hc
      | true =>
        have ha : a = 45 := by unfold below at hx; exact beq_iff_eq.1 hx
        rcases List.mem_cons.1 hc with h | h
        · exact absurd (h.trans ha) h45
        · exact h
/-- A token's text begins with a byte that tokens begin with, and is well made. -/
theorem tell_beg (t : Tok) (ht : okT t = true) (hk : t.kind ≠ 0) : (∃ c r, tellT t = c :: r ∧ begC c = true) ∧ ∀ r, validD (tellT t ++ r) = validD r := by
  unfold okT at ht
  rw [if_neg hk] at ht
  unfold tellT
  by_cases k1 : t.kind = 1
  · rw [if_pos k1] at ht
    rw [if_neg (by rw [k1]; decide)]
    cases hx : t.text with
    | nil => rw [hx] at ht; cases ht
    | cons c r =>
      rw [hx] at ht
      unfold nameB at ht
      rw [Bool.and_eq_true] at ht
      have hall := fun x hx => beg_name x (List.all_eq_true.1 ht.2 x hx)
      exact ⟨⟨c, r, rfl, (hall c (by simp)).1⟩, fun y => valid_ascii _ y fun x hx => (hall x hx).2⟩
  rw [if_neg k1] at ht
  by_cases k2 : t.kind = 2
  · rw [if_pos k2] at ht
    rw [if_neg (by rw [k2]; decide)]
    have hall := num_bytes _ ht
    refine ⟨?_, fun y => valid_ascii _ y fun x hx => (hall x hx).2⟩
    cases hx : t.text with
    | nil => rw [hx] at ht; exact absurd ht (by decide)
    | cons c r => exact ⟨c, r, rfl, (hall c (by rw [hx]; simp)).1⟩
  rw [if_neg k2] at ht
  by_cases k3 : t.kind = 3
  · rw [if_pos k3] at ht ⊢
    unfold textB at ht
    rw [Bool.and_eq_true] at ht
    exact ⟨⟨34, _, rfl, by decide⟩, fun y => valid_quoteL _ y ht.2⟩
  rw [if_neg k3] at ht ⊢
  by_cases k4 : t.kind = 4
  · rw [if_pos k4] at ht
    unfold markB at ht
    rw [Bool.or_eq_true, beq_iff_eq] at ht
    rcases ht with h | h
    · rw [h]
      exact ⟨⟨46, _, rfl, by decide⟩, fun y => valid_ascii _ y fun x hx => (by decide +kernel : ∀ x ∈ ([46, 46, 46] : List UInt8), x.toNat < 128) x hx⟩
    · cases hx : t.text with
      | nil => rw [hx] at h; cases h
      | cons c r =>
        cases r with
        | cons a b => rw [hx] at h; cases h
        | nil =>
          rw [hx] at h
          have := beg_mark c h
          exact ⟨⟨c, [], rfl, this.1⟩, fun y => valid_ascii _ y fun x hx => by rw [List.mem_singleton] at hx; subst hx; exact this.2⟩
  · rw [if_neg k4] at ht; cases ht
/-- Words with a blank ahead of each. -/
def blankT (L : List Tok) : List UInt8 := L.flatMap fun t => 32 :: tellT t
theorem blank_cons (t : Tok) (L : List Tok) : blankT (t :: L) = 32 :: (tellT t ++ blankT L) := by unfold blankT; rw [List.flatMap_cons]; rfl
theorem blank_end (L : List Tok) : BlankR (blankT L) := by
  intro c hc
  cases L with
  | nil => cases hc
  | cons t L =>
    rw [blank_cons] at hc
    injection hc with hc
    subst hc
    decide
def kt (t : Tok) : UInt8 × List UInt8 := (t.kind, t.text)
/-- Tokens with a blank ahead of each: one step of the lexer. -/
theorem lex_tok (k a : Nat) (t : Tok) (p r : List UInt8) (acc : List Tok) (hp : p = [] ∨ p = [32]) (ht : okT t = true) (hk : t.kind ≠ 0) (hl : (tellT t).length ≤ 16384) (hr : BlankR r) :
    lexG (k + 1) a (p ++ (tellT t ++ r)) acc = lexG k (a + p.length + (tellT t).length) r (acc ++ [⟨t.kind, t.text, ((a + p.length : Nat) : Int)⟩]) := by
  obtain ⟨⟨c, x, hx, hb⟩, _⟩ := tell_beg t ht hk
  have hs : skip0 (p ++ (tellT t ++ r)) = (tellT t ++ r, true) := by
    rw [hx]
    rcases hp with rfl | rfl
    · exact skip_beg c (x ++ r) hb
    · exact skip_blank c (x ++ r) hb
  have he : (tellT t ++ r).isEmpty = false := by rw [hx]; rfl
  rw [lexG, hs]
  simp only [Bool.not_true, Bool.false_eq_true, if_false, he]
  rw [tok_of t r ht hk hl hr]
  simp only
  have hlen : a + ((p ++ (tellT t ++ r)).length - (tellT t ++ r).length) = a + p.length := by simp only [List.length_append]; omega
  rw [hlen, List.drop_left]
theorem lex_end (k a : Nat) (acc : List Tok) : lexG k a [] acc = .ok (acc ++ [⟨0, [], ((a : Nat) : Int)⟩]) := by
  rw [lexG, skip_nil [] rfl]
  simp
theorem lex_blanks : ∀ (L : List Tok) (k a : Nat) (acc : List Tok), L.length ≤ k → (∀ t ∈ L, okT t = true ∧ t.kind ≠ 0 ∧ (tellT t).length ≤ 16384) → ∃ M, lexG k a (blankT L) acc = .ok (acc ++ M) ∧ M.map kt = L.map kt ++ [(0, [])]
  | [], k, a, acc, _, _ => ⟨_, lex_end k a acc, rfl⟩
  | t :: L, k, a, acc, hk, h => by
    obtain ⟨h1, h2, h3⟩ := h t (by simp)
    obtain ⟨k, rfl⟩ : ∃ j, k = j + 1 := ⟨k - 1, by simp only [List.length_cons] at hk; omega⟩
    simp only [List.length_cons] at hk
    obtain ⟨M, hM, hkt⟩ := lex_blanks L k (a + 1 + (tellT t).length) (acc ++ [⟨t.kind, t.text, ((a + 1 : Nat) : Int)⟩]) (by omega) (fun x hx => h x (by simp [hx]))
    refine ⟨⟨t.kind, t.text, ((a + 1 : Nat) : Int)⟩ :: M, ?_, ?_⟩
    · rw [blank_cons]
      have := lex_tok k a t [32] (blankT L) acc (Or.inr rfl) h1 h2 h3 (blank_end L)
      rw [show 32 :: (tellT t ++ blankT L) = [32] ++ (tellT t ++ blankT L) from rfl, this]
      rw [List.append_assoc] at hM
      exact hM
    · rw [List.map_cons, hkt]; rfl
/-- The tokens but for an end. -/
def coreT (L : List Tok) : List Tok := L.filter fun t => t.kind != 0
theorem core_of : ∀ L : List Tok, okTs L = true → (∀ t ∈ coreT L, okT t = true ∧ t.kind ≠ 0 ∧ t ∈ L) ∧ restT L = blankT (coreT L) ∧ (L = coreT L ∨ ∃ e, L = coreT L ++ [e] ∧ kt e = (0, []))
  | [], _ => ⟨(fun t h => by cases h), rfl, Or.inl rfl⟩
  | [t], h => by
    have h' : okT t = true := h
    by_cases hk : t.kind = 0
    · have hc : coreT [t] = [] := by simp [coreT, hk]
      have ht : t.text = [] := by unfold okT at h'; rw [if_pos hk] at h'; exact List.isEmpty_iff.1 h'
      rw [hc]
      refine ⟨(fun t h => by cases h), ?_, Or.inr ⟨t, rfl, by unfold kt; rw [hk, ht]⟩⟩
      rw [restT, if_pos hk]
      unfold tellT
      rw [if_neg (by rw [hk]; decide), ht]; rfl
    · have hc : coreT [t] = [t] := by simp [coreT, hk]
      rw [hc]
      refine ⟨fun x hx => by rw [List.mem_singleton] at hx; subst hx; exact ⟨h', hk, by simp⟩, ?_, Or.inl rfl⟩
      rw [restT, if_neg hk, blank_cons]; rfl
  | t :: u :: r, h => by
    have h' : (okT t && !(t.kind == 0) && okTs (u :: r)) = true := by simpa [okTs] using h
    simp only [Bool.and_eq_true, Bool.not_eq_true', beq_eq_false_iff_ne] at h'
    obtain ⟨⟨h1, h2⟩, h3⟩ := h'
    obtain ⟨i1, i2, i3⟩ := core_of (u :: r) h3
    have hc : coreT (t :: u :: r) = t :: coreT (u :: r) := by
      unfold coreT
      rw [List.filter_cons, if_pos (by simp [h2])]
    rw [hc]
    refine ⟨fun x hx => ?_, ?_, ?_⟩
    · rcases List.mem_cons.1 hx with rfl | hx
      · exact ⟨h1, h2, by simp⟩
      · obtain ⟨j1, j2, j3⟩ := i1 x hx; exact ⟨j1, j2, by simp [j3]⟩
    · rw [restT, if_neg h2, i2, blank_cons]; rfl
    · rcases i3 with e | ⟨e, he, hk⟩
      · left; rw [← e]
      · right; exact ⟨e, by rw [List.cons_append, ← he], hk⟩
theorem blank_valid : ∀ (L : List Tok), (∀ t ∈ L, okT t = true ∧ t.kind ≠ 0) → validD (blankT L) = true
  | [], _ => rfl
  | t :: L, h => by
    obtain ⟨h1, h2⟩ := h t (by simp)
    rw [blank_cons, show 32 :: (tellT t ++ blankT L) = [32] ++ (tellT t ++ blankT L) from rfl, valid_ascii [32] _ (fun c hc => by rw [List.mem_singleton] at hc; subst hc; decide), (tell_beg t h1 h2).2]
    exact blank_valid L fun x hx => h x (by simp [hx])
theorem blank_len : ∀ (L : List Tok) (t : Tok), t ∈ L → (tellT t).length < (blankT L).length
  | [], t, h => by cases h
  | u :: L, t, h => by
    rw [blank_cons, List.length_cons, List.length_append]
    rcases List.mem_cons.1 h with rfl | h
    · omega
    · have := blank_len L t h; omega
/-- What is joined is read as the same tokens, and their end. -/
theorem lex_back (L : List Tok) (h : okTs L = true) (hn : L.length ≤ 1024) (hl : (joinT L).length ≤ 16384) : ∃ M, lex0 (joinT L) = .ok M ∧ M.map kt = (coreT L).map kt ++ [(0, [])] ∧ (L = coreT L ∨ ∃ e, L = coreT L ++ [e] ∧ kt e = (0, [])) := by
  obtain ⟨c1, c2, c3⟩ := core_of L h
  have hcl : (coreT L).length ≤ L.length := List.length_filter_le _ _
  cases hc : coreT L with
  | nil =>
    have hj : joinT L = [] := by
      cases L with
      | nil => rfl
      | cons t r =>
        rw [hc] at c2
        by_cases hk : t.kind = 0
        · rw [restT, if_pos hk] at c2
          unfold joinT
          exact c2
        · rw [restT, if_neg hk] at c2
          exact absurd c2 (by simp [blankT])
    rw [hj]
    refine ⟨[⟨0, [], 0⟩], ?_, rfl, hc ▸ c3⟩
    unfold lex0
    rw [if_neg (by decide), lex_end]
    rfl
  | cons t C =>
    rw [hc] at c1 c2 c3 hcl
    have hj : joinT L = tellT t ++ blankT C := by
      cases L with
      | nil => cases hc
      | cons u r =>
        rw [blank_cons, restT] at c2
        unfold joinT
        by_cases hk : u.kind = 0
        · exfalso
          cases r with
          | nil => simp [coreT, hk] at hc
          | cons v r =>
            have h' : (okT u && !(u.kind == 0) && okTs (v :: r)) = true := by simpa [okTs] using h
            simp [hk] at h'
        · rw [if_neg hk] at c2
          simpa using c2
    obtain ⟨t1, t2, _⟩ := c1 t (by simp)
    rw [hj] at hl ⊢
    rw [List.length_append] at hl
    obtain ⟨M, hM, hkt⟩ := lex_blanks C 1023 (0 + 0 + (tellT t).length) ([] ++ [⟨t.kind, t.text, ((0 + 0 : Nat) : Int)⟩]) (by simp only [List.length_cons] at hcl; omega) (fun x hx => by
      obtain ⟨j1, j2, _⟩ := c1 x (by simp [hx])
      have := blank_len C x hx
      exact ⟨j1, j2, by omega⟩)
    refine ⟨[⟨t.kind, t.text, ((0 + 0 : Nat) : Int)⟩] ++ M, ?_, ?_, c3⟩
    · unfold lex0
      rw [if_neg (by rw [List.length_append]; omega), (tell_beg t t1 t2).2, blank_valid C (fun x hx => ⟨(c1 x (by simp [hx])).1, (c1 x (by simp [hx])).2.1⟩)]
      have := lex_tok 1023 0 t [] (blankT C) [] (Or.inl rfl) t1 t2 (by omega) (blank_end C)
      rw [show tellT t ++ blankT C = [] ++ (tellT t ++ blankT C) from rfl]
      rw [show (1024 : Nat) = 1023 + 1 from rfl, this]
      exact hM
    · rw [List.map_append, hkt]; rfl
end Go.Proofs.YtgclnjogoghhcaaGreatDoor
namespace Go.Proofs.YtgclnjogoghhcaaGreatDoor
open Go.Lib
def qlen (p : Nat) : Nat := ((encN p).flatMap quoteC).length
theorem qlen_le (p : Nat) (hp : isPt p = true) : qlen p ≤ 6 ∧ (128 ≤ p → qlen p = (encN p).length) := by
  unfold qlen
  by_cases h : p < 128
  · refine ⟨?_, fun h' => absurd h (by omega)⟩
    have : encN p = [UInt8.ofNat p] := by unfold encN; rw [if_pos h]
    rw [this]
    simp only [List.flatMap_cons, List.flatMap_nil, List.append_nil]
    exact quoteC_len' _
  · have hb := big_all _ (enc_big p hp (by omega))
    rw [hb]
    refine ⟨?_, fun _ => rfl⟩
    rw [enc_len p hp]
    repeat' split
    all_goals decide
theorem esc_len (r : List UInt8) (p : Nat) (t : List UInt8) (h : escJ r = some (p, t)) : qlen p + t.length ≤ r.length + 1 := by
  have hpt := (cut_esc r p t h).2.2
  have h6 := (qlen_le p hpt).1
  cases r with
  | nil => cases h
  | cons c r =>
    unfold escJ at h
    simp only at h
    cases hl : letJ c with
    | some q =>
      rw [hl] at h
      injection h with h; injection h with h1 h2
      subst h1; subst h2
      have : qlen q ≤ 2 := by
        have := (by decide +kernel : ∀ i : Fin 256, (match letJ (UInt8.ofNat i.val) with | some q => decide (qlen q ≤ 2) | none => true) = true) ⟨c.toNat, UInt8.toNat_lt c⟩
        simp only [UInt8.ofNat_toNat, hl] at this
        exact of_decide_eq_true this
      rw [List.length_cons]; omega
    | none =>
      rw [hl] at h
      simp only at h
      split at h
      · cases h
      · cases hx : hexsJ 4 0 r with
        | none => rw [hx] at h; cases h
        | some y =>
          obtain ⟨n, u⟩ := y
          rw [hx] at h
          simp only at h
          have e1 := (cut_hexs 4 0 r n u hx).2
          split at h
          · cases h
          · split at h
            · unfold lowJ at h
              cases hk : tkJ [92, 117] u with
              | none => rw [hk] at h; cases h
              | some u2 =>
                rw [hk] at h
                simp only at h
                have e2 := (cut_tk _ _ _ (by decide) hk).2
                cases hx2 : hexsJ 4 0 u2 with
                | none => rw [hx2] at h; cases h
                | some y2 =>
                  obtain ⟨m, u3⟩ := y2
                  rw [hx2] at h
                  simp only at h
                  have e3 := (cut_hexs 4 0 u2 m u3 hx2).2
                  split at h
                  · cases h
                  · injection h with h; injection h with h1 h2
                    subst h2
                    rw [List.length_cons]; omega
            · injection h with h; injection h with h1 h2
              subst h2
              rw [List.length_cons]; omega
theorem strGo_len : ∀ (f : Nat) (l : List UInt8) (P : List Nat) (t : List UInt8), validD l = true → strGo f l = some (P, t) → ((P.flatMap encN).flatMap quoteC).length + 1 + t.length ≤ l.length ∧ validD (P.flatMap encN) = true
  | 0, l, P, t, _, h => by rw [strGo] at h; cases h
  | f + 1, [], P, t, _, h => by rw [strGo] at h; cases h
  | f + 1, c :: r, P, t, hv, h => by
    rw [strGo] at h
    split at h
    · injection h with h; injection h with h1 h2
      subst h1; subst h2
      exact ⟨by simp; omega, rfl⟩
    · rename_i h34
      split at h
      · cases h
      · rename_i h32
        split at h
        · rename_i hc
          subst hc
          cases he : escJ r with
          | none => rw [he] at h; cases h
          | some pt =>
            obtain ⟨p, t1⟩ := pt
            rw [he] at h
            simp only at h
            obtain ⟨k1, k2, k3⟩ := cut_esc r p t1 he
            have k0 := cut_cons 92 r (by decide)
            cases hg : strGo f t1 with
            | none => rw [hg] at h; cases h
            | some x =>
              obtain ⟨Q, u⟩ := x
              rw [hg] at h
              injection h with h; injection h with h1 h2
              simp only at h1 h2
              subst h1; subst h2
              obtain ⟨g1, g2⟩ := strGo_len f t1 Q u ((k0.trans k1).2 hv) hg
              have e1 := esc_len r p t1 he
              unfold qlen at e1
              refine ⟨?_, by rw [List.flatMap_cons, valid_enc p k3]; exact g2⟩
              rw [List.flatMap_cons, List.flatMap_append, List.length_append, List.length_cons]
              omega
        · rename_i h92
          have hs := valid_step (c :: r) (by simp)
          rw [hv] at hs
          have hs2 := hs.symm
          rw [Bool.and_eq_true] at hs2
          obtain ⟨hw, hv2⟩ := hs2
          obtain ⟨d1, d2, d3, d4⟩ := decode_pt (c :: r) (by simp) hw
          cases hg : strGo f ((c :: r).drop (decodeL (c :: r)).2) with
          | none => rw [hg] at h; cases h
          | some x =>
            obtain ⟨Q, u⟩ := x
            rw [hg] at h
            injection h with h; injection h with h1 h2
            simp only at h1 h2
            subst h1; subst h2
            obtain ⟨g1, g2⟩ := strGo_len f _ Q u hv2 hg
            have hq : qlen (decodeL (c :: r)).1 ≤ (decodeL (c :: r)).2 := by
              have hel : (encN (decodeL (c :: r)).1).length = (decodeL (c :: r)).2 := by rw [d4, List.length_take]; omega
              by_cases hb : 128 ≤ (decodeL (c :: r)).1
              · rw [(qlen_le _ d1).2 hb, hel]; exact Nat.le_refl _
              · have h1 : encN (decodeL (c :: r)).1 = [UInt8.ofNat (decodeL (c :: r)).1] := by unfold encN; rw [if_pos (by omega)]
                have hm : (decodeL (c :: r)).2 = 1 := by rw [← hel, h1]; rfl
                have hcq : c = UInt8.ofNat (decodeL (c :: r)).1 := by
                  rw [h1, hm, List.take_succ_cons] at d4
                  injection d4 with d4 _
                  exact d4.symm
                unfold qlen
                rw [h1, ← hcq, hm]
                simp only [List.flatMap_cons, List.flatMap_nil, List.append_nil]
                have hc128 : c.toNat < 128 := by rw [hcq, ofN _ (by omega)]; omega
                have := (by decide +kernel : ∀ i : Fin 256, i.val < 128 → ¬ UInt8.ofNat i.val = 34 → ¬ i.val < 32 → ¬ UInt8.ofNat i.val = 92 → (quoteC (UInt8.ofNat i.val)).length ≤ 1) ⟨c.toNat, UInt8.toNat_lt c⟩ hc128
                simp only [UInt8.ofNat_toNat] at this
                exact this h34 h32 h92
            unfold qlen at hq
            have hdl : ((c :: r).drop (decodeL (c :: r)).2).length = (c :: r).length - (decodeL (c :: r)).2 := List.length_drop
            refine ⟨?_, by rw [List.flatMap_cons, valid_enc _ d1]; exact g2⟩
            rw [List.flatMap_cons, List.flatMap_append, List.length_append]
            omega
theorem str_len (l s t : List UInt8) (hv : validD l = true) (h : strJ l = some (s, t)) : (quoteL s).length + t.length ≤ l.length ∧ validD s = true := by
  unfold strJ at h
  cases ht : tkJ [34] l with
  | none => rw [ht] at h; cases h
  | some r =>
    rw [ht] at h
    obtain ⟨k1, k2⟩ := cut_tk _ _ _ (by decide) ht
    simp only at h
    cases hg : strGo r.length r with
    | none => rw [hg] at h; cases h
    | some x =>
      obtain ⟨P, u⟩ := x
      rw [hg] at h
      injection h with h; injection h with h1 h2
      simp only at h1 h2
      subst h1; subst h2
      obtain ⟨g1, g2⟩ := strGo_len _ r P u (k1.2 hv) hg
      refine ⟨?_, g2⟩
      unfold quoteL
      simp only [List.length_append, List.length_cons, List.length_nil] at k2 ⊢
      omega
theorem quote_ge (s : List UInt8) : s.length + 2 ≤ (quoteL s).length := by
  unfold quoteL
  have := flat_quote_len s
  simp only [List.length_append, List.length_cons, List.length_nil]
  omega
/-- A cell that was read, of so many bytes. -/
def OkO (n : Nat) (x : Cel) : Prop := (x.kind == 4 || x.kind == 5) = false ∧ R x.num ∧ R x.many ∧ x.text.length ≤ n
theorem OkO.mono {n m : Nat} {x : Cel} (h : OkO n x) (hm : n ≤ m) : OkO m x := ⟨h.1, h.2.1, h.2.2.1, Nat.le_trans h.2.2.2 hm⟩
end Go.Proofs.YtgclnjogoghhcaaGreatDoor
namespace Go.Proofs.YtgclnjogoghhcaaGreatDoor
open Go.Lib
theorem read_quote (x : List UInt8) (v : List Cel) (h : readJ (34 :: x) = .ok v) : ∃ s t, strJ (34 :: x) = some (s, t) ∧ v = [⟨3, [], s, 0, 0⟩] ∧ (blJ t).isEmpty = true := by
  have hv : valJ 16 [] (34 :: x) [] = leafJ [] 34 (34 :: x) [] := by
    rw [show (16 : Nat) = 15 + 1 from rfl]
    unfold valJ
    rw [show blJ (34 :: x) = 34 :: x from rfl]
    simp only
    rw [if_neg (by decide), if_neg (by decide), if_neg (by decide)]
  unfold readJ at h
  rw [hv] at h
  unfold leafJ at h
  rw [if_pos rfl] at h
  cases hs : strJ (34 :: x) with
  | none => rw [hs] at h; cases h
  | some y =>
    obtain ⟨s, t⟩ := y
    rw [hs] at h
    simp only at h
    split at h
    · rename_i hb
      injection h with h
      exact ⟨s, t, rfl, h.symm, hb⟩
    · cases h
theorem json_quote_ok (x : List UInt8) (v : List Cel) (h : jsonT (34 :: x) = .ok v) : ∃ s, v = [⟨3, [], s, 0, 0⟩] ∧ validD s = true ∧ (quoteL s).length ≤ 16384 := by
  unfold jsonT at h
  split at h
  · cases h
  rename_i hl
  split at h
  · cases h
  rename_i hv
  have hv : validD (34 :: x) = true := by simpa using hv
  obtain ⟨s, t, h1, h2, _⟩ := read_quote x v h
  obtain ⟨j1, j2⟩ := str_len _ s t hv h1
  exact ⟨s, h2, j2, by omega⟩
theorem scan_len : ∀ (q : Bool) (r b : List UInt8) (n : Nat), scanT q r = some (b, n) → 0 < n ∧ n ≤ r.length
  | q, [], b, n, h => by unfold scanT at h; cases h
  | q, c :: r, b, n, h => by
    unfold scanT at h
    split at h
    · injection h with h
      injection h with h1 h2
      subst h2
      simp
    · cases hx : scanT (!q && c == 92) r with
      | none => rw [hx] at h; cases h
      | some y =>
        obtain ⟨b', n'⟩ := y
        rw [hx] at h
        injection h with h
        injection h with h1 h2
        have := scan_len _ r b' n' hx
        simp only [List.length_cons] at *
        omega
theorem txt_may (l a : List UInt8) (n : Nat) (h : txtT l = some (a, n)) : textB a = true ∧ (quoteL a).length ≤ 16384 ∧ 0 < n ∧ n ≤ l.length := by
  unfold txtT at h
  cases l with
  | nil => cases h
  | cons c r =>
    simp only at h
    split at h
    · cases h
    · cases hs : scanT false r with
      | none => rw [hs] at h; cases h
      | some y =>
        obtain ⟨b, m⟩ := y
        rw [hs] at h
        simp only at h
        cases hj : jsonT (34 :: (b ++ [34])) with
        | error e => rw [hj] at h; cases h
        | ok v =>
          rw [hj] at h
          simp only at h
          injection h with h
          injection h with h1 h2
          obtain ⟨s, rfl, hv, hq⟩ := json_quote_ok _ v hj
          obtain ⟨k1, k2⟩ := scan_len _ _ _ _ hs
          have he : a = s := h1.symm
          subst he
          have := quote_ge a
          refine ⟨?_, hq, by omega, by simp only [List.length_cons]; omega⟩
          unfold textB
          rw [hv, decide_eq_true (by omega)]; rfl
theorem while_len (p : UInt8 → Bool) : ∀ l : List UInt8, (l.takeWhile p).length ≤ l.length
  | [] => Nat.le_refl _
  | c :: l => by
    rw [List.takeWhile_cons]
    split
    · have := while_len p l; simp only [List.length_cons]; omega
    · exact Nat.zero_le _
theorem num_may (l a : List UInt8) (h : numTk l = some a) : okDigits (body a) = true ∧ 0 < a.length ∧ a.length ≤ l.length := by
  unfold numTk at h
  simp only at h
  split at h
  · rename_i hb
    injection h with h
    rw [Bool.and_eq_true] at hb
    have hd : digitsB ((body l).takeWhile isDig) = true := by have := hb.1; unfold okDigits at this; rw [Bool.and_eq_true] at this; exact this.1
    have hne : (body l).takeWhile isDig ≠ [] := by
      intro e; rw [e] at hd; exact absurd hd (by decide)
    have hlen := while_len isDig (body l)
    have hpos : 0 < ((body l).takeWhile isDig).length := List.length_pos_iff.2 hne
    cases hx : below l with
    | true =>
      rw [hx] at h
      have hbl : (body l).length + 1 = l.length := by
        cases l with
        | nil => cases hx
        | cons c r => unfold body; rw [hx]; rfl
      subst h
      refine ⟨?_, by simp, ?_⟩
      · rw [show body ((if true = true then [45] else []) ++ (body l).takeWhile isDig) = (body l).takeWhile isDig from rfl]
        exact hb.1
      · rw [if_pos rfl, List.length_append]; simp only [List.length_cons, List.length_nil]; omega
    | false =>
      rw [hx] at h
      have hbl : body l = l := by unfold body; rw [hx]; rfl
      rw [if_neg (by decide), List.nil_append] at h
      subst h
      refine ⟨?_, hpos, by rw [hbl] at hlen ⊢; exact hlen⟩
      have : body ((body l).takeWhile isDig) = (body l).takeWhile isDig := by
        rw [hbl] at hne ⊢
        cases l with
        | nil => exact absurd rfl hne
        | cons c r =>
          have hc : c ≠ 45 := by
            have : below (c :: r) = false := hx
            unfold below at this
            exact beq_eq_false_iff_ne.1 this
          rw [List.takeWhile_cons] at hne ⊢
          split
          · unfold body
            rw [show below (c :: r.takeWhile isDig) = false from by unfold below; exact beq_eq_false_iff_ne.2 hc]
            rfl
          · rfl
      rw [this]
      exact hb.1
  · cases h
/-- A token that was read may be; and it is not nothing. -/
theorem tok_may (l a : List UInt8) (k : UInt8) (n : Nat) (p : Int) (hl : l.length ≤ 16384) (h : tokG l = some (k, a, n)) : okT ⟨k, a, p⟩ = true ∧ k ≠ 0 ∧ (tellT ⟨k, a, p⟩).length ≤ 16384 ∧ 0 < n ∧ n ≤ l.length := by
  unfold tokG at h
  cases h1 : nameT l with
  | some x =>
    rw [h1] at h
    injection h with h
    obtain ⟨rfl, rfl, rfl⟩ : 1 = k ∧ x = a ∧ x.length = n := by injection h with h h2; injection h2 with h2 h3; exact ⟨h, h2, h3⟩
    unfold nameT at h1
    simp only at h1
    split at h1
    · rename_i hb
      injection h1 with h1
      have := while_len nameC l
      rw [h1] at hb this
      refine ⟨hb, by decide, ?_, ?_, this⟩
      · show x.length ≤ 16384; omega
      · cases x with
        | nil => cases hb
        | cons c r => simp
    · cases h1
  | none =>
    rw [h1] at h
    cases h2 : numTk l with
    | some x =>
      rw [h2] at h
      injection h with h
      obtain ⟨rfl, rfl, rfl⟩ : 2 = k ∧ x = a ∧ x.length = n := by injection h with h h2; injection h2 with h2 h3; exact ⟨h, h2, h3⟩
      obtain ⟨j1, j2, j3⟩ := num_may l x h2
      exact ⟨j1, by decide, by show x.length ≤ 16384; omega, j2, j3⟩
    | none =>
      rw [h2] at h
      cases h3 : txtT l with
      | some y =>
        obtain ⟨x, m⟩ := y
        rw [h3] at h
        injection h with h
        obtain ⟨rfl, rfl, rfl⟩ : 3 = k ∧ x = a ∧ m = n := by injection h with h h2; injection h2 with h2 h3; exact ⟨h, h2, h3⟩
        obtain ⟨j1, j2, j3, j4⟩ := txt_may l x m h3
        exact ⟨j1, by decide, j2, j3, j4⟩
      | none =>
        rw [h3] at h
        simp only at h
        cases h4 : punT l with
        | none => rw [h4] at h; cases h
        | some x =>
          rw [h4] at h
          injection h with h
          obtain ⟨rfl, rfl, rfl⟩ : 4 = k ∧ x = a ∧ x.length = n := by injection h with h h2; injection h2 with h2 h3; exact ⟨h, h2, h3⟩
          unfold punT at h4
          split at h4
          · rename_i hp
            injection h4 with h4
            subst h4
            have := (List.isPrefixOf_iff_prefix.1 hp).length_le
            refine ⟨?_, by decide, ?_, by decide, this⟩
            · show markB [46, 46, 46] = true; decide
            · show ([46, 46, 46] : List UInt8).length ≤ 16384; simp
          · cases l with
            | nil => cases h4
            | cons c r =>
              simp only at h4
              split at h4
              · rename_i hm
                injection h4 with h4
                subst h4
                refine ⟨?_, by decide, by show ([c] : List UInt8).length ≤ 16384; simp, by simp, by simp⟩
                show markB [c] = true
                unfold markB
                rw [Bool.or_eq_true]
                exact Or.inr hm
              · cases h4
def incB : Int → List Tok → Bool
  | _, [] => true
  | a, t :: r => decide (a < t.pos) && incB t.pos r
theorem inc_low : ∀ (L : List Tok) (a b : Int), b ≤ a → incB a L = true → incB b L = true
  | [], _, _, _, _ => rfl
  | t :: r, a, b, h, hi => by
    unfold incB at hi ⊢
    simp only [Bool.and_eq_true, decide_eq_true_eq] at hi ⊢
    exact ⟨by omega, hi.2⟩
theorem hid_len : ∀ (f : Nat) (l : List UInt8), (hidG f l).length ≤ l.length
  | 0, l => Nat.le_refl _
  | f + 1, [] => Nat.le_refl _
  | f + 1, c :: r => by
    unfold hidG
    split
    · have := hid_len f r; simp only [List.length_cons]; omega
    · split
      · have := hid_len f ((c :: r).drop 3)
        simp only [List.length_drop, List.length_cons] at this ⊢
        omega
      · exact Nat.le_refl _
theorem dwhile_len (p : UInt8 → Bool) : ∀ l : List UInt8, (l.dropWhile p).length ≤ l.length
  | [] => Nat.le_refl _
  | c :: l => by
    rw [List.dropWhile_cons]
    split
    · have := dwhile_len p l; simp only [List.length_cons]; omega
    · exact Nat.le_refl _
theorem skip_len : ∀ (f : Nat) (l : List UInt8), (skipG f l).1.length ≤ l.length
  | 0, l => Nat.le_refl _
  | f + 1, l => by
    have h0 : (hid0 l).length ≤ l.length := hid_len _ l
    unfold skipG
    cases hx : hid0 l with
    | nil => exact Nat.zero_le _
    | cons c r =>
      rw [hx] at h0
      simp only
      split
      · split
        · simp only [List.length_drop]; omega
        · have h1 := skip_len f ((c :: r).dropWhile lineC)
          have h2 := dwhile_len lineC (c :: r)
          omega
      · exact h0
/-- What is read: tokens that may be, behind each other, and their end. -/
theorem lex_ok : ∀ (k a : Nat) (l : List UInt8) (acc R : List Tok), l.length ≤ 16384 → lexG k a l acc = .ok R →
    ∃ M e, R = acc ++ (M ++ [e]) ∧ kt e = (0, []) ∧ M.length ≤ l.length ∧ (∀ t ∈ M, okT t = true ∧ t.kind ≠ 0 ∧ (tellT t).length ≤ 16384) ∧ incB ((a : Int) - 1) (M ++ [e]) = true
  | k, a, l, acc, R, hl, h => by
    have hs : (skip0 l).1.length ≤ l.length := skip_len _ l
    unfold lexG at h
    cases hx : skip0 l with
    | mk l1 ok =>
      rw [hx] at h hs
      simp only at h hs
      split at h
      · cases h
      split at h
      · injection h with h
        refine ⟨[], _, h.symm, rfl, Nat.zero_le _, (fun t h => by cases h), ?_⟩
        show incB _ [_] = true
        unfold incB incB
        simp only [Bool.and_eq_true, decide_eq_true_eq]
        exact ⟨by omega, trivial⟩
      · cases k with
        | zero => cases h
        | succ k =>
          simp only at h
          cases ht : tokG l1 with
          | none => rw [ht] at h; cases h
          | some y =>
            obtain ⟨kd, tx, n⟩ := y
            rw [ht] at h
            simp only at h
            obtain ⟨j1, j2, j3, j4, j5⟩ := tok_may l1 tx kd n ((a + (l.length - l1.length) : Nat) : Int) (by omega) ht
            obtain ⟨M, e, m1, m2, m3, m4, m5⟩ := lex_ok k _ _ _ R (by rw [List.length_drop]; omega) h
            refine ⟨⟨kd, tx, ((a + (l.length - l1.length) : Nat) : Int)⟩ :: M, e, ?_, m2, ?_, ?_, ?_⟩
            · rw [m1, List.append_assoc]; rfl
            · rw [List.length_drop] at m3; simp only [List.length_cons]; omega
            · intro t ht
              rcases List.mem_cons.1 ht with rfl | ht
              · exact ⟨j1, j2, j3⟩
              · exact m4 t ht
            · show incB _ (_ :: (M ++ [e])) = true
              unfold incB
              simp only [Bool.and_eq_true, decide_eq_true_eq]
              exact ⟨by omega, inc_low _ _ _ (by omega) m5⟩
end Go.Proofs.YtgclnjogoghhcaaGreatDoor
namespace Go.Proofs.YtgclnjogoghhcaaGreatDoor
open Go.RowKit
/-- A slice of bytes of the call's own, from a block on, that reads as a list. -/
def Own (B : Nat) (v : Value) (l : List UInt8) (W : World) : Prop := W.ownsRow B 5 1 v l.length (Lib.byteCells l)
theorem Own.nil (B : Nat) (W : World) : Own B (.slice none 0 0) [] W := World.ownsRow_nil W B 5 1
theorem Own.below {B : Nat} {v : Value} {l : List UInt8} {w w' : World} (h : Own B v l w) (hb : Below w.heap.size w w') : Own B v l w' := by
  obtain ⟨h1, h2⟩ := h
  refine ⟨h1, ?_⟩
  rcases h2 with h2 | ⟨g, cap, cur, hv, hB, hg, hrest⟩
  · exact Or.inl h2
  · have hlt : g < w.heap.size := (Array.getElem?_eq_some_iff.1 hg).1
    exact Or.inr ⟨g, cap, cur, hv, hB, (hb.block g hlt).trans hg, hrest⟩
theorem Own.alloc {B : Nat} {v : Value} {l : List UInt8} {w : World} (h : Own B v l w) (o : Obj) : Own B v l (w.alloc o) := World.ownsRow.alloc h o
theorem Own.drew {B : Nat} {v : Value} {l : List UInt8} {w : World} (h : Own B v l w) : Own B v l w.drew := h
theorem Own.lt {B : Nat} {v : Value} {l : List UInt8} {w : World} (h : Own B v l w) : ∀ k, v.ownBlock = some k → B ≤ k := fun k hk => (World.ownsRow.lt h k hk).1
theorem run_convert_own {B : Nat} {v : Value} {l : List UInt8} {w : World} (h : Own B v l w) : (convert 68 9 v).run Tryz.prog w = .ok (.string ⟨l.toArray⟩) w := by
  obtain ⟨h1, h2⟩ := h
  rcases h2 with ⟨rfl, h2⟩ | ⟨g, cap, cur, rfl, hB, hg, hn, hc, hcs, ht⟩
  · have : l = [] := List.eq_nil_of_length_eq_zero h2
    subst this
    exact Lib.run_convert_nil_bytes w 68 9 5 0 Tryz.underlying68 Tryz.underlying5 Tryz.underlying9
  · exact Go.run_convert_bytes_back w 68 9 5 ⟨g, 0, none⟩ cap l Tryz.underlying68 Tryz.underlying5 Tryz.underlying9 (Lib.bytes_of_row hg (by rw [Nat.mul_one] at ht; exact ht))
end Go.Proofs.YtgclnjogoghhcaaGreatDoor
namespace Go.Proofs.YtgclnjogoghhcaaGreatDoor
open Go.RowKit
theorem ret_b {a c : Bool} (h : a = c) : Ending.returned (.bool a) = .returned (.bool c) := by rw [h]
theorem drop_at (s : ByteArray) (k : Nat) (h : k < s.size) : s.data.toList.drop k = s[k] :: s.data.toList.drop (k + 1) := by
  rw [List.drop_eq_getElem_cons (by rw [Array.length_toList]; exact h)]; rfl
end Go.Proofs.YtgclnjogoghhcaaGreatDoor
namespace Go.Proofs.YtgclnjogoghhcaaGreatDoor
open Go.RowKit
theorem ib_cases (c : UInt8) : ∀ l : List UInt8, (l.contains c = true ∧ ∃ k : Nat, Lib.indexByte l c = k) ∨ (l.contains c = false ∧ Lib.indexByte l c = -1)
  | [] => Or.inr ⟨rfl, rfl⟩
  | b :: l => by
    rw [Lib.indexByte, List.contains_cons]
    by_cases hb : b = c
    · left; subst hb; exact ⟨by simp, 0, by simp⟩
    · have h1 : (b == c) = false := by simpa using hb
      have h2 : (c == b) = false := by simpa using fun e => hb e.symm
      rw [h1, h2, Bool.false_or]
      rcases ib_cases c l with ⟨g1, k, g2⟩ | ⟨g1, g2⟩
      · left
        refine ⟨g1, k + 1, ?_⟩
        rw [g2]
        have : (((k : Int)) == -1) = false := by rw [beq_eq_false_iff_ne]; omega
        simp only [Bool.false_eq_true, if_false, this]; omega
      · right
        refine ⟨g1, ?_⟩
        rw [g2]; rfl
theorem len_z (s : ByteArray) : s.data.toList.length = s.size := by rw [Array.length_toList]; rfl
theorem empty_z (s : ByteArray) : (0 < s.size ∧ ¬ s.toList = [] ∧ s.toList.isEmpty = false ∧ s.data.toList ≠ []) ∨ (s.size = 0 ∧ s.toList = [] ∧ s.toList.isEmpty = true ∧ s.data.toList = []) := by
  rw [ByteArray.toList_eq]
  have := len_z s
  cases h : s.data.toList with
  | nil => right; rw [h] at this; exact ⟨this.symm, rfl, rfl, rfl⟩
  | cons c r => left; rw [h] at this; exact ⟨by simp at this; omega, by simp, rfl, by simp⟩
def nameMs : List UInt8 := [95, 97, 98, 99, 100, 101, 102, 103, 104, 105, 106, 107, 108, 109, 110, 111, 112, 113, 114, 115, 116, 117, 118, 119, 120, 121, 122, 65, 66, 67, 68, 69, 70, 71, 72, 73, 74, 75, 76, 77, 78, 79, 80, 81, 82, 83, 84, 85, 86, 87, 88, 89, 90, 48, 49, 50, 51, 52, 53, 54, 55, 56, 57]
theorem all256' {f : UInt8 → Bool} (h : ∀ i : Fin 256, f (UInt8.ofNat i.val) = true) (c : UInt8) : f c = true := by
  have := h ⟨c.toNat, UInt8.toNat_lt c⟩
  simpa using this
theorem name_ms (c : UInt8) : nameMs.contains c = nameC c := by
  have := all256' (f := fun c => nameMs.contains c == nameC c) (by decide +kernel) c
  simpa using this
theorem head_z (s : ByteArray) (h : 0 < s.size) : s.data.toList = s[0] :: s.data.toList.drop 1 := by
  have := drop_at s 0 h
  rwa [List.drop_zero] at this
theorem ib_dig (c : UInt8) : Lib.indexByte (⟨#[48, 49, 50, 51, 52, 53, 54, 55, 56, 57]⟩ : ByteArray).data.toList c = if isDig c then ((c.toNat - 48 : Nat) : Int) else -1 := by
  have := all256' (f := fun c => Lib.indexByte (⟨#[48, 49, 50, 51, 52, 53, 54, 55, 56, 57]⟩ : ByteArray).data.toList c == if isDig c then ((c.toNat - 48 : Nat) : Int) else -1) (by decide +kernel) c
  simpa using this
theorem bytes_ext' {a : ByteArray} {l : List UInt8} (h : a.data.toList = l) : a = ⟨l.toArray⟩ := by
  obtain ⟨d⟩ := a
  have : d = l.toArray := by apply Array.ext'; simpa using h
  rw [this]
end Go.Proofs.YtgclnjogoghhcaaGreatDoor
namespace Go.Proofs.YtgclnjogoghhcaaGreatDoor
open Go.RowKit
theorem encode_high (r : Int) (h : 128 ≤ r) : 2 ≤ (Utf8.encode r).size ∧ ∀ (k : Nat) (hk : k < (Utf8.encode r).size), 128 ≤ ((Utf8.encode r)[k]).toNat := by
  have hc : ∃ c : Nat, 128 ≤ c ∧ c < 1114112 ∧ Utf8.encode r = (let b (n : Nat) : UInt8 := UInt8.ofNat n
      if c < 0x80 then ⟨#[b c]⟩
      else if c < 0x800 then ⟨#[b (0xC0 + c / 64), b (0x80 + c % 64)]⟩
      else if c < 0x10000 then ⟨#[b (0xE0 + c / 4096), b (0x80 + c / 64 % 64), b (0x80 + c % 64)]⟩
      else ⟨#[b (0xF0 + c / 262144), b (0x80 + c / 4096 % 64), b (0x80 + c / 64 % 64), b (0x80 + c % 64)]⟩) := by
    refine ⟨if Utf8.valid r then r.toNat else Utf8.runeError, ?_, ?_, rfl⟩
    · split
      · omega
      · decide
    · split
      · rename_i hv
        simp only [Utf8.valid, Bool.or_eq_true, Bool.and_eq_true, decide_eq_true_eq] at hv
        omega
      · decide
  obtain ⟨c, h1, h2, e⟩ := hc
  rw [e]
  simp only
  split
  · exfalso; omega
  split
  · refine ⟨by show 2 ≤ Array.size _; simp, ?_⟩
    intro k hk
    match k, hk with
    | 0, _ => show 128 ≤ (UInt8.ofNat (192 + c / 64)).toNat; rw [UInt8.toNat_ofNat']; omega
    | 1, _ => show 128 ≤ (UInt8.ofNat (128 + c % 64)).toNat; rw [UInt8.toNat_ofNat']; omega
  · split
    · refine ⟨by show 2 ≤ Array.size _; simp, ?_⟩
      intro k hk
      match k, hk with
      | 0, _ => show 128 ≤ (UInt8.ofNat (224 + c / 4096)).toNat; rw [UInt8.toNat_ofNat']; omega
      | 1, _ => show 128 ≤ (UInt8.ofNat (128 + c / 64 % 64)).toNat; rw [UInt8.toNat_ofNat']; omega
      | 2, _ => show 128 ≤ (UInt8.ofNat (128 + c % 64)).toNat; rw [UInt8.toNat_ofNat']; omega
    · refine ⟨by show 2 ≤ Array.size _; simp, ?_⟩
      intro k hk
      match k, hk with
      | 0, _ => show 128 ≤ (UInt8.ofNat (240 + c / 262144)).toNat; rw [UInt8.toNat_ofNat']; omega
      | 1, _ => show 128 ≤ (UInt8.ofNat (128 + c / 4096 % 64)).toNat; rw [UInt8.toNat_ofNat']; omega
      | 2, _ => show 128 ≤ (UInt8.ofNat (128 + c / 64 % 64)).toNat; rw [UInt8.toNat_ofNat']; omega
      | 3, _ => show 128 ≤ (UInt8.ofNat (128 + c % 64)).toNat; rw [UInt8.toNat_ofNat']; omega
set_option maxRecDepth 100000 in
theorem rune_none (r : Int) (h : 128 ≤ r) (h2 : r ≤ 2147483647) (w : World) :
    Calls Tryz.prog 45 #[.string ⟨#[13, 10]⟩, .int .i32 r] w fun e w' => e = .returned (.int .i64 (-1)) ∧ Below w.heap.size w w' := by
  have h0 : 0 ≤ r := by omega
  have h1 : ¬ r < 128 := by omega
  by_cases he : r = 65533
  · subst he
    have n0 := fun (w : World) ty => run_next_ascii (P := Tryz.prog) w ⟨#[13, 10]⟩ 0 ty (by decide) (by decide)
    have n1 := fun (w : World) ty => run_next_ascii (P := Tryz.prog) w ⟨#[13, 10]⟩ 1 ty (by decide) (by decide)
    have n2 := fun (w : World) ty => run_next_end (P := Tryz.prog) w ⟨#[13, 10]⟩ 2 ty (by decide)
    go_enter Tryz.func45, Tryz.ntmps45
    go_wp2_with fail
    refine wp_loop_rounds 3 ?_
    rw [rounds_succ]
    go_wp2_with fail
    rw [rounds_succ]
    go_wp2_with fail
    rw [rounds_succ]
    go_wp2_with fail
    go_ret
    refine ⟨rfl, ?_⟩
    unfold World.iter
    exact (Below.refl _ _).alloc (Nat.le_refl _) _
  · have HV := Lib.hid (fun w => Tryz.utf8_ValidRune r w)
    have HE := Lib.hid (encode_high r h)
    obtain ⟨vb, hvb⟩ : ∃ b, Lib.validRune r = b := ⟨_, rfl⟩
    rw [hvb] at HV
    clear hvb
    cases vb
    · go_enter Tryz.func45, Tryz.ntmps45
      go_wp2_with fail
      refine (HV.out _).mono ?_; rintro e w1 ⟨rfl, rfl⟩
      go_wp2_with fail
      go_ret
      exact ⟨rfl, Below.refl _ _⟩
    · obtain ⟨rs, hrs⟩ : ∃ rs : ByteArray, Utf8.encode r = rs := ⟨_, rfl⟩
      rw [hrs] at HE
      have hsz : 2 ≤ rs.size := HE.out.1
      have hsz4 : rs.size ≤ 1000 := by rw [← hrs]; have := encode_size_le r; omega
      have HX := Lib.hid (fun (s : ByteArray) (c : Int) (w : World) => Tryz.strings_IndexByte s c w)
      by_cases hs2 : rs.size = 2
      · have hl : 128 ≤ (rs[1]'(by omega)).toNat := HE.out.2 1 (by omega)
        go_enter Tryz.func45, Tryz.ntmps45
        go_wp2_with fail
        refine (HV.out _).mono ?_; rintro e w1 ⟨rfl, rfl⟩
        go_wp2_with fail
        have hne : (((⟨#[13, 10]⟩ : ByteArray)[1]'(by decide)).toNat : Int) = 10 := rfl
        have hwr : IntKind.i64.wrap 2 = 2 := by decide
        have hib : ∀ c : UInt8, Lib.indexByte [] c = -1 := fun _ => rfl
        have hl1 : ¬ ((10 : Int) = ((rs[1]'(by omega)).toNat : Int)) := by omega
        go_step3
        go_wp2_with fail
        refine wp_loop_rounds 1 ?_
        rw [rounds_succ]
        go_wp2_with fail
        go_step3
        go_wp2_with fail
        go_quiet (fail)
        go_wp2_with fail
        go_region_held3 (fun W => Below w1.heap.size w1 W) (first | assumption | exact ⟨rfl, rfl, rfl, Nat.le_refl _, fun _ _ => rfl⟩) (first | (go_at_call 21; refine (HX.out _ _ _).mono ?_; rintro e w3 ⟨rfl, rfl⟩) | fail)
        rename_i hS
        go_wp2_with fail
        rw [Exit.noGoto_ret]
        go_wp2_with fail
        rw [Exit.noGoto_ret]
        go_ret
        exact ⟨rfl, hS⟩
      · have hs3 : 3 ≤ rs.size := by omega
        go_enter Tryz.func45, Tryz.ntmps45
        go_wp2_with fail
        refine (HV.out _).mono ?_; rintro e w1 ⟨rfl, rfl⟩
        go_wp2_with fail
        have hlt : decide ((rs.size : Int) - 1 < 2) = false := by simp; omega
        have hlt2 : ¬ ((rs.size : Int) - 1 < 2) := by omega
        go_step3
        go_wp2_with fail
        refine wp_loop_rounds 1 ?_
        rw [rounds_succ]
        go_wp2_with fail
        rw [Exit.noGoto_ret]
        go_ret
        exact ⟨rfl, Below.refl _ _⟩
end Go.Proofs.YtgclnjogoghhcaaGreatDoor
namespace Go.Proofs.YtgclnjogoghhcaaGreatDoor
open Go.RowKit
theorem ret_i {a c : Int} (h : a = c) : Ending.returned (.int .i64 a) = .returned (.int .i64 c) := by rw [h]
theorem below_dN {B : Nat} {w w1 : World} (n : Nat) (h : Below B w w1) : Below B w (w1.drewN n) := h.trans ⟨rfl, rfl, rfl, Nat.le_refl _, fun _ _ => rfl⟩
theorem lt_of_cell {W : World} {b o : Nat} {v : Value} (h : W.cell? ⟨b, o, none⟩ = some v) : b < W.heap.size := by
  rcases Nat.lt_or_ge b W.heap.size with h' | h'
  · exact h'
  · exfalso
    have : W.heap[b]? = none := Array.getElem?_eq_none h'
    simp [World.cell?, this] at h
theorem heap_lt {b : Nat} {W : World} {o : Obj} (h : W.heap[b]? = some o) : b < W.heap.size := (Array.getElem?_eq_some_iff.1 h).1
theorem heap_old {b : Nat} {W : World} {o o' : Obj} (h : W.heap[b]? = some o) : (W.alloc o').heap[b]? = some o := by
  rw [Below.heap_alloc _ _ _ (Array.getElem?_eq_some_iff.1 h).1]; exact h
theorem heap_new (W : World) (o : Obj) (b : Nat) (hb : b = W.heap.size) : (W.alloc o).heap[b]? = some o := by rw [hb]; exact heap_alloc_new W o
/-- Cells that stand in a row from a place of a block on. -/
def CelRow (b off : Nat) (V : List Cel) (W : World) : Prop := ∀ (k : Nat) (h : k < V.length), W.cell? ⟨b, off + k * 5, none⟩ = some (.int .u8 (V[k].kind.toNat : Int)) ∧ W.cell? ⟨b, off + k * 5 + 1, none⟩ = some (.string ⟨V[k].name.toArray⟩) ∧ W.cell? ⟨b, off + k * 5 + 2, none⟩ = some (.string ⟨V[k].text.toArray⟩) ∧ W.cell? ⟨b, off + k * 5 + 3, none⟩ = some (.int .i64 V[k].num) ∧ W.cell? ⟨b, off + k * 5 + 4, none⟩ = some (.int .i64 V[k].many)
theorem CelRow.below {b off : Nat} {V : List Cel} {w w' : World} {B : Nat} (h : CelRow b off V w) (hb : Below B w w') (hlt : b < B) : CelRow b off V w' := by
  intro k hk
  obtain ⟨h0, h1, h2, h3, h4⟩ := h k hk
  exact ⟨(hb.cell (p := ⟨b, _, none⟩) hlt).trans h0, (hb.cell (p := ⟨b, _, none⟩) hlt).trans h1, (hb.cell (p := ⟨b, _, none⟩) hlt).trans h2, (hb.cell (p := ⟨b, _, none⟩) hlt).trans h3, (hb.cell (p := ⟨b, _, none⟩) hlt).trans h4⟩
theorem CelRow.below' {b off : Nat} {V : List Cel} {w w' : World} (h : CelRow b off V w) (hb : Below w.heap.size w w') : CelRow b off V w' := by
  intro k hk
  exact h.below hb (lt_of_cell (h k hk).1) k hk
theorem CelRow.lt {b off : Nat} {V : List Cel} {w : World} (h : CelRow b off V w) (hV : 0 < V.length) : b < w.heap.size := lt_of_cell (h 0 hV).1
/-- A slice that reads as cells. -/
def CelSl (v : Value) (V : List Cel) (W : World) : Prop := (∃ a cap, v = .slice a 0 cap ∧ V = [] ∧ (a = none → cap = 0)) ∨ ∃ b off cap, v = .slice (some ⟨b, off, none⟩) V.length cap ∧ CelRow b off V W ∧ 0 < V.length
theorem CelSl.below {v : Value} {V : List Cel} {w w' : World} (h : CelSl v V w) (hb : Below w.heap.size w w') : CelSl v V w' := by
  rcases h with h | ⟨b, off, cap, h1, h2, h3⟩
  · exact Or.inl h
  · exact Or.inr ⟨b, off, cap, h1, h2.below' hb, h3⟩
end Go.Proofs.YtgclnjogoghhcaaGreatDoor
namespace Go.Proofs.YtgclnjogoghhcaaGreatDoor
open Go.RowKit


theorem wp_scope_once {P : Program} {a : Act} {w : World} {Q : Exit → Act → World → Prop} {c rest : Code} (l : Nat) (hf : findLabel c l = some rest)
    (first : c.wp P (Exit.jump l (fun a w => rest.wp P (Exit.noGoto Q) a w) Q) a w) : (Code.scope c).wp P Q a w :=
  wp_scope_jumps l (fun a w => rest.wp P (Exit.noGoto Q) a w) (fun _ _ => 0) hf first fun a w hJ => wp_mono hJ fun e a w h => by
    cases e with
    | goto l' => exact h.elim
    | _ => exact h
theorem jump_goto {l : Nat} {J : Act → World → Prop} {Q : Exit → Act → World → Prop} {a : Act} {w : World} (h : J a w) : Exit.jump l J Q (.goto l) a w := ⟨rfl, h⟩
set_option maxRecDepth 100000 in
set_option maxHeartbeats 1000000 in
theorem rune_2_other (r : Int) (h : 128 ≤ r) (h2 : r ≤ 2147483647) (b0 b1 : UInt8) (he : ¬ r = 65533) (hrs : Hid (Utf8.encode r = ⟨#[b0, b1]⟩)) (HV : Hid (∀ w, Calls Tryz.prog 55 #[.int .i32 r] w fun e w' => e = .returned (.bool true) ∧ w = w')) (h128 : (128 : Int) ≤ ((b1.toNat : Nat) : Int)) (h191 : ((b1.toNat : Nat) : Int) ≤ 191) (hy : Hid (Lib.indexByte [13, 10, 44, 239, 187, 191] b1 = -1)) (w : World) :
    Calls Tryz.prog 45 #[.string ⟨#[32, 9, 13, 10, 44, 239, 187, 191]⟩, .int .i32 r] w fun e w' => e = .returned (.int .i64 (-1)) ∧ Below w.heap.size w w' := by
  have h0 : 0 ≤ r := by omega
  have h1 : ¬ r < 128 := by omega
  have HX : Hid (∀ w, Calls Tryz.prog 21 #[.string (⟨#[13, 10, 44, 239, 187, 191]⟩ : ByteArray), .int .u8 ((b1.toNat : Nat) : Int)] w fun e w' => e = .returned (.int .i64 (-1)) ∧ w = w') := Lib.hid (fun w => by
    have := Tryz.strings_IndexByte (⟨#[13, 10, 44, 239, 187, 191]⟩ : ByteArray) ((b1.toNat : Nat) : Int) w
    rw [show (((b1.toNat : Nat) : Int)).toNat.toUInt8 = b1 by simp, hy.out] at this
    exact this.mono fun e w' ⟨h1, h2⟩ => ⟨h1, h2.symm⟩)
  have hx : (⟨#[32, 9, 13, 10, 44, 239, 187, 191]⟩ : ByteArray).extract 2 8 = (⟨#[13, 10, 44, 239, 187, 191]⟩ : ByteArray) := rfl
  have hs1 : (((⟨#[32, 9, 13, 10, 44, 239, 187, 191]⟩ : ByteArray)[1]'(by decide)).toNat : Int) = 9 := rfl
  have hl1 : ¬ ((9 : Int) = ((b1.toNat : Nat) : Int)) := by omega
  obtain ⟨rs, hr⟩ : ∃ rs, Utf8.encode r = rs := ⟨_, rfl⟩
  have hz : rs.size = 2 := by rw [← hr, hrs.out]; rfl
  have e0 : ∀ hk, rs[0]'hk = b0 := by rw [← hr, hrs.out]; intro _; rfl
  have e1 : ∀ hk, rs[1]'hk = b1 := by rw [← hr, hrs.out]; intro _; rfl
  clear hrs
  have hwr : IntKind.i64.wrap 2 = 2 := by decide
  go_enter Tryz.func45, Tryz.ntmps45
  go_wp2_with fail
  refine (HV.out _).mono ?_; rintro e w1 ⟨rfl, rfl⟩
  go_wp2_with fail
  go_step3
  go_wp2_with fail
  refine wp_loop_rounds 3 ?_
  rw [rounds_succ]
  go_wp2_with fail
  go_step3
  go_wp2_with fail
  go_quiet (fail)
  go_wp2_with fail
  go_region_held3 (fun W => Below w.heap.size w W) (first | assumption | exact ⟨rfl, rfl, rfl, Nat.le_refl _, fun _ _ => rfl⟩) (first | (go_at_call 21; refine (HX.out _).mono ?_; rintro e w3 ⟨rfl, rfl⟩) | fail)
  rename_i hS
  go_wp2_with fail
  rw [Exit.noGoto_ret]
  go_wp2_with fail
  rw [Exit.noGoto_ret]
  go_ret
  exact ⟨rfl, hS⟩
set_option maxRecDepth 100000 in
set_option maxHeartbeats 1000000 in
theorem rune_2_187_n (r : Int) (h : 128 ≤ r) (h2 : r ≤ 2147483647) (b0 b1 : UInt8) (he : ¬ r = 65533) (hrs : Hid (Utf8.encode r = ⟨#[b0, b1]⟩)) (HV : Hid (∀ w, Calls Tryz.prog 55 #[.int .i32 r] w fun e w' => e = .returned (.bool true) ∧ w = w')) (h128 : (128 : Int) ≤ ((b1.toNat : Nat) : Int)) (h191 : ((b1.toNat : Nat) : Int) ≤ 191) (hy : b1 = 187) (k0 : ¬ ((239 : Int) = ((b0.toNat : Nat) : Int))) (w : World) :
    Calls Tryz.prog 45 #[.string ⟨#[32, 9, 13, 10, 44, 239, 187, 191]⟩, .int .i32 r] w fun e w' => e = .returned (.int .i64 (-1)) ∧ Below w.heap.size w w' := by
  have h0 : 0 ≤ r := by omega
  have h1 : ¬ r < 128 := by omega
  subst hy
  have HX : Hid (∀ w, Calls Tryz.prog 21 #[.string (⟨#[13, 10, 44, 239, 187, 191]⟩ : ByteArray), .int .u8 187] w fun e w' => e = .returned (.int .i64 4) ∧ w = w') := Lib.hid (fun w => (Tryz.strings_IndexByte (⟨#[13, 10, 44, 239, 187, 191]⟩ : ByteArray) 187 w).mono fun e w' ⟨h1, h2⟩ => ⟨h1, h2.symm⟩)
  have hx : (⟨#[32, 9, 13, 10, 44, 239, 187, 191]⟩ : ByteArray).extract 2 8 = (⟨#[13, 10, 44, 239, 187, 191]⟩ : ByteArray) := rfl
  have hs1 : (((⟨#[32, 9, 13, 10, 44, 239, 187, 191]⟩ : ByteArray)[1]'(by decide)).toNat : Int) = 9 := rfl
  obtain ⟨rs, hr⟩ : ∃ rs, Utf8.encode r = rs := ⟨_, rfl⟩
  have hz : rs.size = 2 := by rw [← hr, hrs.out]; rfl
  have e0 : ∀ hk, rs[0]'hk = b0 := by rw [← hr, hrs.out]; intro _; rfl
  have e1 : ∀ hk, rs[1]'hk = 187 := by rw [← hr, hrs.out]; intro _; rfl
  clear hrs
  have hwr : IntKind.i64.wrap 2 = 2 := by decide
  go_enter Tryz.func45, Tryz.ntmps45
  go_wp2_with fail
  refine (HV.out _).mono ?_; rintro e w1 ⟨rfl, rfl⟩
  go_wp2_with fail
  go_step3
  go_wp2_with fail
  refine wp_loop_rounds 3 ?_
  rw [rounds_succ]
  go_wp2_with fail
  refine wp_scope_once 0 rfl ?_
  go_wp2_with fail
  go_quiet (fail)
  go_wp2_with fail
  go_region_held3 (fun W => Below w.heap.size w W) (first | assumption | exact ⟨rfl, rfl, rfl, Nat.le_refl _, fun _ _ => rfl⟩) (first | (go_at_call 21; refine (HX.out _).mono ?_; rintro e w3 ⟨rfl, rfl⟩) | fail)
  rename_i hS
  go_wp2_with fail
  have hq0 : (((⟨#[32, 9, 13, 10, 44, 239, 187, 191]⟩ : ByteArray)[5]'(by decide)).toNat : Int) = 239 := rfl
  refine wp_loop_rounds 5 ?_
  rw [rounds_succ]
  go_wp2_with fail
  (try (go_step3; go_wp2_with fail))
  go_quiet (fail)
  go_wp2_with fail
  go_step3
  go_wp2_with fail
  refine jump_goto ?_
  go_wp2_with fail
  go_wp2
  rw [Exit.noGoto_normal]
  go_wp2_with fail
  have hs7 : (((⟨#[32, 9, 13, 10, 44, 239, 187, 191]⟩ : ByteArray)[7]'(by decide)).toNat : Int) = 191 := rfl
  rw [rounds_succ]
  go_wp2_with fail
  go_step3
  go_wp2_with fail
  go_quiet (fail)
  go_wp2_with fail
  have hx8 : (⟨#[32, 9, 13, 10, 44, 239, 187, 191]⟩ : ByteArray).extract 8 8 = ⟨#[]⟩ := rfl
  have hwr8 : IntKind.i64.wrap 8 = 8 := by decide
  have HX0 : Hid (∀ w, Calls Tryz.prog 21 #[.string ⟨#[]⟩, .int .u8 187] w fun e w' => e = .returned (.int .i64 (-1)) ∧ w = w') := Lib.hid (fun w => (Tryz.strings_IndexByte ⟨#[]⟩ 187 w).mono fun e w' ⟨h1, h2⟩ => ⟨h1, h2.symm⟩)
  clear hS
  go_region_held3 (fun W => Below w.heap.size w W) (first | assumption | exact ⟨rfl, rfl, rfl, Nat.le_refl _, fun _ _ => rfl⟩) (first | (go_at_call 21; refine (HX0.out _).mono ?_; rintro e w3 ⟨rfl, rfl⟩) | fail)
  rename_i hS
  go_wp2_with fail
  rw [Exit.noGoto_ret]
  go_wp2_with fail
  (try (rw [Exit.noGoto_ret]))
  go_ret
  exact ⟨rfl, below_dN _ (Below.refl _ _)⟩
set_option maxRecDepth 100000 in
set_option maxHeartbeats 1000000 in
theorem rune_2_191_n (r : Int) (h : 128 ≤ r) (h2 : r ≤ 2147483647) (b0 b1 : UInt8) (he : ¬ r = 65533) (hrs : Hid (Utf8.encode r = ⟨#[b0, b1]⟩)) (HV : Hid (∀ w, Calls Tryz.prog 55 #[.int .i32 r] w fun e w' => e = .returned (.bool true) ∧ w = w')) (h128 : (128 : Int) ≤ ((b1.toNat : Nat) : Int)) (h191 : ((b1.toNat : Nat) : Int) ≤ 191) (hy : b1 = 191) (k0 : ¬ ((187 : Int) = ((b0.toNat : Nat) : Int))) (w : World) :
    Calls Tryz.prog 45 #[.string ⟨#[32, 9, 13, 10, 44, 239, 187, 191]⟩, .int .i32 r] w fun e w' => e = .returned (.int .i64 (-1)) ∧ Below w.heap.size w w' := by
  have h0 : 0 ≤ r := by omega
  have h1 : ¬ r < 128 := by omega
  subst hy
  have HX : Hid (∀ w, Calls Tryz.prog 21 #[.string (⟨#[13, 10, 44, 239, 187, 191]⟩ : ByteArray), .int .u8 191] w fun e w' => e = .returned (.int .i64 5) ∧ w = w') := Lib.hid (fun w => (Tryz.strings_IndexByte (⟨#[13, 10, 44, 239, 187, 191]⟩ : ByteArray) 191 w).mono fun e w' ⟨h1, h2⟩ => ⟨h1, h2.symm⟩)
  have hx : (⟨#[32, 9, 13, 10, 44, 239, 187, 191]⟩ : ByteArray).extract 2 8 = (⟨#[13, 10, 44, 239, 187, 191]⟩ : ByteArray) := rfl
  have hs1 : (((⟨#[32, 9, 13, 10, 44, 239, 187, 191]⟩ : ByteArray)[1]'(by decide)).toNat : Int) = 9 := rfl
  obtain ⟨rs, hr⟩ : ∃ rs, Utf8.encode r = rs := ⟨_, rfl⟩
  have hz : rs.size = 2 := by rw [← hr, hrs.out]; rfl
  have e0 : ∀ hk, rs[0]'hk = b0 := by rw [← hr, hrs.out]; intro _; rfl
  have e1 : ∀ hk, rs[1]'hk = 191 := by rw [← hr, hrs.out]; intro _; rfl
  clear hrs
  have hwr : IntKind.i64.wrap 2 = 2 := by decide
  go_enter Tryz.func45, Tryz.ntmps45
  go_wp2_with fail
  refine (HV.out _).mono ?_; rintro e w1 ⟨rfl, rfl⟩
  go_wp2_with fail
  go_step3
  go_wp2_with fail
  refine wp_loop_rounds 3 ?_
  rw [rounds_succ]
  go_wp2_with fail
  refine wp_scope_once 0 rfl ?_
  go_wp2_with fail
  go_quiet (fail)
  go_wp2_with fail
  go_region_held3 (fun W => Below w.heap.size w W) (first | assumption | exact ⟨rfl, rfl, rfl, Nat.le_refl _, fun _ _ => rfl⟩) (first | (go_at_call 21; refine (HX.out _).mono ?_; rintro e w3 ⟨rfl, rfl⟩) | fail)
  rename_i hS
  go_wp2_with fail
  have hq0 : (((⟨#[32, 9, 13, 10, 44, 239, 187, 191]⟩ : ByteArray)[6]'(by decide)).toNat : Int) = 187 := rfl
  refine wp_loop_rounds 5 ?_
  rw [rounds_succ]
  go_wp2_with fail
  (try (go_step3; go_wp2_with fail))
  go_quiet (fail)
  go_wp2_with fail
  go_step3
  go_wp2_with fail
  refine jump_goto ?_
  go_wp2_with fail
  go_wp2
  rw [Exit.noGoto_normal]
  go_wp2_with fail
  rw [rounds_succ]
  go_wp2_with fail
  rw [Exit.noGoto_ret]
  go_wp2_with fail
  (try (rw [Exit.noGoto_ret]))
  go_ret
  exact ⟨rfl, below_dN _ (Below.refl _ _)⟩
set_option maxRecDepth 100000 in
set_option maxHeartbeats 1000000 in
theorem rune_3_other (r : Int) (h : 128 ≤ r) (h2 : r ≤ 2147483647) (b0 b1 b2 : UInt8) (he : ¬ r = 65533) (hrs : Hid (Utf8.encode r = ⟨#[b0, b1, b2]⟩)) (HV : Hid (∀ w, Calls Tryz.prog 55 #[.int .i32 r] w fun e w' => e = .returned (.bool true) ∧ w = w')) (h128 : (128 : Int) ≤ ((b2.toNat : Nat) : Int)) (h191 : ((b2.toNat : Nat) : Int) ≤ 191) (hy : Hid (Lib.indexByte [10, 44, 239, 187, 191] b2 = -1)) (w : World) :
    Calls Tryz.prog 45 #[.string ⟨#[32, 9, 13, 10, 44, 239, 187, 191]⟩, .int .i32 r] w fun e w' => e = .returned (.int .i64 (-1)) ∧ Below w.heap.size w w' := by
  have h0 : 0 ≤ r := by omega
  have h1 : ¬ r < 128 := by omega
  have HX : Hid (∀ w, Calls Tryz.prog 21 #[.string (⟨#[10, 44, 239, 187, 191]⟩ : ByteArray), .int .u8 ((b2.toNat : Nat) : Int)] w fun e w' => e = .returned (.int .i64 (-1)) ∧ w = w') := Lib.hid (fun w => by
    have := Tryz.strings_IndexByte (⟨#[10, 44, 239, 187, 191]⟩ : ByteArray) ((b2.toNat : Nat) : Int) w
    rw [show (((b2.toNat : Nat) : Int)).toNat.toUInt8 = b2 by simp, hy.out] at this
    exact this.mono fun e w' ⟨h1, h2⟩ => ⟨h1, h2.symm⟩)
  have hx : (⟨#[32, 9, 13, 10, 44, 239, 187, 191]⟩ : ByteArray).extract 3 8 = (⟨#[10, 44, 239, 187, 191]⟩ : ByteArray) := rfl
  have hs2 : (((⟨#[32, 9, 13, 10, 44, 239, 187, 191]⟩ : ByteArray)[2]'(by decide)).toNat : Int) = 13 := rfl
  have hl1 : ¬ ((13 : Int) = ((b2.toNat : Nat) : Int)) := by omega
  obtain ⟨rs, hr⟩ : ∃ rs, Utf8.encode r = rs := ⟨_, rfl⟩
  have hz : rs.size = 3 := by rw [← hr, hrs.out]; rfl
  have e0 : ∀ hk, rs[0]'hk = b0 := by rw [← hr, hrs.out]; intro _; rfl
  have e1 : ∀ hk, rs[1]'hk = b1 := by rw [← hr, hrs.out]; intro _; rfl
  have e2 : ∀ hk, rs[2]'hk = b2 := by rw [← hr, hrs.out]; intro _; rfl
  clear hrs
  have hwr : IntKind.i64.wrap 3 = 3 := by decide
  go_enter Tryz.func45, Tryz.ntmps45
  go_wp2_with fail
  refine (HV.out _).mono ?_; rintro e w1 ⟨rfl, rfl⟩
  go_wp2_with fail
  go_step3
  go_wp2_with fail
  refine wp_loop_rounds 3 ?_
  rw [rounds_succ]
  go_wp2_with fail
  go_step3
  go_wp2_with fail
  go_quiet (fail)
  go_wp2_with fail
  go_region_held3 (fun W => Below w.heap.size w W) (first | assumption | exact ⟨rfl, rfl, rfl, Nat.le_refl _, fun _ _ => rfl⟩) (first | (go_at_call 21; refine (HX.out _).mono ?_; rintro e w3 ⟨rfl, rfl⟩) | fail)
  rename_i hS
  go_wp2_with fail
  rw [Exit.noGoto_ret]
  go_wp2_with fail
  rw [Exit.noGoto_ret]
  go_ret
  exact ⟨rfl, hS⟩
set_option maxRecDepth 100000 in
set_option maxHeartbeats 1000000 in
theorem rune_3_187_n (r : Int) (h : 128 ≤ r) (h2 : r ≤ 2147483647) (b0 b1 b2 : UInt8) (he : ¬ r = 65533) (hrs : Hid (Utf8.encode r = ⟨#[b0, b1, b2]⟩)) (HV : Hid (∀ w, Calls Tryz.prog 55 #[.int .i32 r] w fun e w' => e = .returned (.bool true) ∧ w = w')) (h128 : (128 : Int) ≤ ((b2.toNat : Nat) : Int)) (h191 : ((b2.toNat : Nat) : Int) ≤ 191) (hy : b2 = 187) (k0 : ¬ ((239 : Int) = ((b1.toNat : Nat) : Int))) (w : World) :
    Calls Tryz.prog 45 #[.string ⟨#[32, 9, 13, 10, 44, 239, 187, 191]⟩, .int .i32 r] w fun e w' => e = .returned (.int .i64 (-1)) ∧ Below w.heap.size w w' := by
  have h0 : 0 ≤ r := by omega
  have h1 : ¬ r < 128 := by omega
  subst hy
  have HX : Hid (∀ w, Calls Tryz.prog 21 #[.string (⟨#[10, 44, 239, 187, 191]⟩ : ByteArray), .int .u8 187] w fun e w' => e = .returned (.int .i64 3) ∧ w = w') := Lib.hid (fun w => (Tryz.strings_IndexByte (⟨#[10, 44, 239, 187, 191]⟩ : ByteArray) 187 w).mono fun e w' ⟨h1, h2⟩ => ⟨h1, h2.symm⟩)
  have hx : (⟨#[32, 9, 13, 10, 44, 239, 187, 191]⟩ : ByteArray).extract 3 8 = (⟨#[10, 44, 239, 187, 191]⟩ : ByteArray) := rfl
  have hs2 : (((⟨#[32, 9, 13, 10, 44, 239, 187, 191]⟩ : ByteArray)[2]'(by decide)).toNat : Int) = 13 := rfl
  obtain ⟨rs, hr⟩ : ∃ rs, Utf8.encode r = rs := ⟨_, rfl⟩
  have hz : rs.size = 3 := by rw [← hr, hrs.out]; rfl
  have e0 : ∀ hk, rs[0]'hk = b0 := by rw [← hr, hrs.out]; intro _; rfl
  have e1 : ∀ hk, rs[1]'hk = b1 := by rw [← hr, hrs.out]; intro _; rfl
  have e2 : ∀ hk, rs[2]'hk = 187 := by rw [← hr, hrs.out]; intro _; rfl
  clear hrs
  have hwr : IntKind.i64.wrap 3 = 3 := by decide
  go_enter Tryz.func45, Tryz.ntmps45
  go_wp2_with fail
  refine (HV.out _).mono ?_; rintro e w1 ⟨rfl, rfl⟩
  go_wp2_with fail
  go_step3
  go_wp2_with fail
  refine wp_loop_rounds 3 ?_
  rw [rounds_succ]
  go_wp2_with fail
  refine wp_scope_once 0 rfl ?_
  go_wp2_with fail
  go_quiet (fail)
  go_wp2_with fail
  go_region_held3 (fun W => Below w.heap.size w W) (first | assumption | exact ⟨rfl, rfl, rfl, Nat.le_refl _, fun _ _ => rfl⟩) (first | (go_at_call 21; refine (HX.out _).mono ?_; rintro e w3 ⟨rfl, rfl⟩) | fail)
  rename_i hS
  go_wp2_with fail
  have hq0 : (((⟨#[32, 9, 13, 10, 44, 239, 187, 191]⟩ : ByteArray)[5]'(by decide)).toNat : Int) = 239 := rfl
  refine wp_loop_rounds 5 ?_
  rw [rounds_succ]
  go_wp2_with fail
  (try (go_step3; go_wp2_with fail))
  go_quiet (fail)
  go_wp2_with fail
  go_step3
  go_wp2_with fail
  refine jump_goto ?_
  go_wp2_with fail
  go_wp2
  rw [Exit.noGoto_normal]
  go_wp2_with fail
  have hs7 : (((⟨#[32, 9, 13, 10, 44, 239, 187, 191]⟩ : ByteArray)[7]'(by decide)).toNat : Int) = 191 := rfl
  rw [rounds_succ]
  go_wp2_with fail
  go_step3
  go_wp2_with fail
  go_quiet (fail)
  go_wp2_with fail
  have hx8 : (⟨#[32, 9, 13, 10, 44, 239, 187, 191]⟩ : ByteArray).extract 8 8 = ⟨#[]⟩ := rfl
  have hwr8 : IntKind.i64.wrap 8 = 8 := by decide
  have HX0 : Hid (∀ w, Calls Tryz.prog 21 #[.string ⟨#[]⟩, .int .u8 187] w fun e w' => e = .returned (.int .i64 (-1)) ∧ w = w') := Lib.hid (fun w => (Tryz.strings_IndexByte ⟨#[]⟩ 187 w).mono fun e w' ⟨h1, h2⟩ => ⟨h1, h2.symm⟩)
  clear hS
  go_region_held3 (fun W => Below w.heap.size w W) (first | assumption | exact ⟨rfl, rfl, rfl, Nat.le_refl _, fun _ _ => rfl⟩) (first | (go_at_call 21; refine (HX0.out _).mono ?_; rintro e w3 ⟨rfl, rfl⟩) | fail)
  rename_i hS
  go_wp2_with fail
  rw [Exit.noGoto_ret]
  go_wp2_with fail
  (try (rw [Exit.noGoto_ret]))
  go_ret
  exact ⟨rfl, below_dN _ (Below.refl _ _)⟩
set_option maxRecDepth 100000 in
set_option maxHeartbeats 1000000 in
theorem rune_3_191_n (r : Int) (h : 128 ≤ r) (h2 : r ≤ 2147483647) (b0 b1 b2 : UInt8) (he : ¬ r = 65533) (hrs : Hid (Utf8.encode r = ⟨#[b0, b1, b2]⟩)) (HV : Hid (∀ w, Calls Tryz.prog 55 #[.int .i32 r] w fun e w' => e = .returned (.bool true) ∧ w = w')) (h128 : (128 : Int) ≤ ((b2.toNat : Nat) : Int)) (h191 : ((b2.toNat : Nat) : Int) ≤ 191) (hy : b2 = 191) (k0 : ¬ ((187 : Int) = ((b1.toNat : Nat) : Int))) (w : World) :
    Calls Tryz.prog 45 #[.string ⟨#[32, 9, 13, 10, 44, 239, 187, 191]⟩, .int .i32 r] w fun e w' => e = .returned (.int .i64 (-1)) ∧ Below w.heap.size w w' := by
  have h0 : 0 ≤ r := by omega
  have h1 : ¬ r < 128 := by omega
  subst hy
  have HX : Hid (∀ w, Calls Tryz.prog 21 #[.string (⟨#[10, 44, 239, 187, 191]⟩ : ByteArray), .int .u8 191] w fun e w' => e = .returned (.int .i64 4) ∧ w = w') := Lib.hid (fun w => (Tryz.strings_IndexByte (⟨#[10, 44, 239, 187, 191]⟩ : ByteArray) 191 w).mono fun e w' ⟨h1, h2⟩ => ⟨h1, h2.symm⟩)
  have hx : (⟨#[32, 9, 13, 10, 44, 239, 187, 191]⟩ : ByteArray).extract 3 8 = (⟨#[10, 44, 239, 187, 191]⟩ : ByteArray) := rfl
  have hs2 : (((⟨#[32, 9, 13, 10, 44, 239, 187, 191]⟩ : ByteArray)[2]'(by decide)).toNat : Int) = 13 := rfl
  obtain ⟨rs, hr⟩ : ∃ rs, Utf8.encode r = rs := ⟨_, rfl⟩
  have hz : rs.size = 3 := by rw [← hr, hrs.out]; rfl
  have e0 : ∀ hk, rs[0]'hk = b0 := by rw [← hr, hrs.out]; intro _; rfl
  have e1 : ∀ hk, rs[1]'hk = b1 := by rw [← hr, hrs.out]; intro _; rfl
  have e2 : ∀ hk, rs[2]'hk = 191 := by rw [← hr, hrs.out]; intro _; rfl
  clear hrs
  have hwr : IntKind.i64.wrap 3 = 3 := by decide
  go_enter Tryz.func45, Tryz.ntmps45
  go_wp2_with fail
  refine (HV.out _).mono ?_; rintro e w1 ⟨rfl, rfl⟩
  go_wp2_with fail
  go_step3
  go_wp2_with fail
  refine wp_loop_rounds 3 ?_
  rw [rounds_succ]
  go_wp2_with fail
  refine wp_scope_once 0 rfl ?_
  go_wp2_with fail
  go_quiet (fail)
  go_wp2_with fail
  go_region_held3 (fun W => Below w.heap.size w W) (first | assumption | exact ⟨rfl, rfl, rfl, Nat.le_refl _, fun _ _ => rfl⟩) (first | (go_at_call 21; refine (HX.out _).mono ?_; rintro e w3 ⟨rfl, rfl⟩) | fail)
  rename_i hS
  go_wp2_with fail
  have hq0 : (((⟨#[32, 9, 13, 10, 44, 239, 187, 191]⟩ : ByteArray)[6]'(by decide)).toNat : Int) = 187 := rfl
  refine wp_loop_rounds 5 ?_
  rw [rounds_succ]
  go_wp2_with fail
  (try (go_step3; go_wp2_with fail))
  go_quiet (fail)
  go_wp2_with fail
  go_step3
  go_wp2_with fail
  refine jump_goto ?_
  go_wp2_with fail
  go_wp2
  rw [Exit.noGoto_normal]
  go_wp2_with fail
  rw [rounds_succ]
  go_wp2_with fail
  rw [Exit.noGoto_ret]
  go_wp2_with fail
  (try (rw [Exit.noGoto_ret]))
  go_ret
  exact ⟨rfl, below_dN _ (Below.refl _ _)⟩
set_option maxRecDepth 100000 in
set_option maxHeartbeats 1000000 in
theorem rune_3_191_yn (r : Int) (h : 128 ≤ r) (h2 : r ≤ 2147483647) (b0 b1 b2 : UInt8) (he : ¬ r = 65533) (hrs : Hid (Utf8.encode r = ⟨#[b0, b1, b2]⟩)) (HV : Hid (∀ w, Calls Tryz.prog 55 #[.int .i32 r] w fun e w' => e = .returned (.bool true) ∧ w = w')) (h128 : (128 : Int) ≤ ((b2.toNat : Nat) : Int)) (h191 : ((b2.toNat : Nat) : Int) ≤ 191) (hy : b2 = 191) (k0 : b1 = 187) (k1 : ¬ ((239 : Int) = ((b0.toNat : Nat) : Int))) (w : World) :
    Calls Tryz.prog 45 #[.string ⟨#[32, 9, 13, 10, 44, 239, 187, 191]⟩, .int .i32 r] w fun e w' => e = .returned (.int .i64 (-1)) ∧ Below w.heap.size w w' := by
  have h0 : 0 ≤ r := by omega
  have h1 : ¬ r < 128 := by omega
  subst hy
  subst k0
  have HX : Hid (∀ w, Calls Tryz.prog 21 #[.string (⟨#[10, 44, 239, 187, 191]⟩ : ByteArray), .int .u8 191] w fun e w' => e = .returned (.int .i64 4) ∧ w = w') := Lib.hid (fun w => (Tryz.strings_IndexByte (⟨#[10, 44, 239, 187, 191]⟩ : ByteArray) 191 w).mono fun e w' ⟨h1, h2⟩ => ⟨h1, h2.symm⟩)
  have hx : (⟨#[32, 9, 13, 10, 44, 239, 187, 191]⟩ : ByteArray).extract 3 8 = (⟨#[10, 44, 239, 187, 191]⟩ : ByteArray) := rfl
  have hs2 : (((⟨#[32, 9, 13, 10, 44, 239, 187, 191]⟩ : ByteArray)[2]'(by decide)).toNat : Int) = 13 := rfl
  obtain ⟨rs, hr⟩ : ∃ rs, Utf8.encode r = rs := ⟨_, rfl⟩
  have hz : rs.size = 3 := by rw [← hr, hrs.out]; rfl
  have e0 : ∀ hk, rs[0]'hk = b0 := by rw [← hr, hrs.out]; intro _; rfl
  have e1 : ∀ hk, rs[1]'hk = 187 := by rw [← hr, hrs.out]; intro _; rfl
  have e2 : ∀ hk, rs[2]'hk = 191 := by rw [← hr, hrs.out]; intro _; rfl
  clear hrs
  have hwr : IntKind.i64.wrap 3 = 3 := by decide
  go_enter Tryz.func45, Tryz.ntmps45
  go_wp2_with fail
  refine (HV.out _).mono ?_; rintro e w1 ⟨rfl, rfl⟩
  go_wp2_with fail
  go_step3
  go_wp2_with fail
  refine wp_loop_rounds 3 ?_
  rw [rounds_succ]
  go_wp2_with fail
  refine wp_scope_once 0 rfl ?_
  go_wp2_with fail
  go_quiet (fail)
  go_wp2_with fail
  go_region_held3 (fun W => Below w.heap.size w W) (first | assumption | exact ⟨rfl, rfl, rfl, Nat.le_refl _, fun _ _ => rfl⟩) (first | (go_at_call 21; refine (HX.out _).mono ?_; rintro e w3 ⟨rfl, rfl⟩) | fail)
  rename_i hS
  go_wp2_with fail
  have hq0 : (((⟨#[32, 9, 13, 10, 44, 239, 187, 191]⟩ : ByteArray)[6]'(by decide)).toNat : Int) = 187 := rfl
  have hq1 : (((⟨#[32, 9, 13, 10, 44, 239, 187, 191]⟩ : ByteArray)[5]'(by decide)).toNat : Int) = 239 := rfl
  refine wp_loop_rounds 5 ?_
  rw [rounds_succ]
  go_wp2_with fail
  (try (go_step3; go_wp2_with fail))
  go_quiet (fail)
  go_wp2_with fail
  rw [rounds_succ]
  go_wp2_with fail
  (try (go_step3; go_wp2_with fail))
  go_quiet (fail)
  go_wp2_with fail
  go_step3
  go_wp2_with fail
  refine jump_goto ?_
  go_wp2_with fail
  go_wp2
  rw [Exit.noGoto_normal]
  go_wp2_with fail
  rw [rounds_succ]
  go_wp2_with fail
  rw [Exit.noGoto_ret]
  go_wp2_with fail
  (try (rw [Exit.noGoto_ret]))
  go_ret
  exact ⟨rfl, below_dN _ (Below.refl _ _)⟩
set_option maxRecDepth 100000 in
set_option maxHeartbeats 1000000 in
theorem rune_3_191_yy (r : Int) (h : 128 ≤ r) (h2 : r ≤ 2147483647) (b0 b1 b2 : UInt8) (he : ¬ r = 65533) (hrs : Hid (Utf8.encode r = ⟨#[b0, b1, b2]⟩)) (HV : Hid (∀ w, Calls Tryz.prog 55 #[.int .i32 r] w fun e w' => e = .returned (.bool true) ∧ w = w')) (h128 : (128 : Int) ≤ ((b2.toNat : Nat) : Int)) (h191 : ((b2.toNat : Nat) : Int) ≤ 191) (hy : b2 = 191) (k0 : b1 = 187) (k1 : b0 = 239) (w : World) :
    Calls Tryz.prog 45 #[.string ⟨#[32, 9, 13, 10, 44, 239, 187, 191]⟩, .int .i32 r] w fun e w' => e = .returned (.int .i64 (5)) ∧ Below w.heap.size w w' := by
  have h0 : 0 ≤ r := by omega
  have h1 : ¬ r < 128 := by omega
  subst hy
  subst k0
  subst k1
  have HX : Hid (∀ w, Calls Tryz.prog 21 #[.string (⟨#[10, 44, 239, 187, 191]⟩ : ByteArray), .int .u8 191] w fun e w' => e = .returned (.int .i64 4) ∧ w = w') := Lib.hid (fun w => (Tryz.strings_IndexByte (⟨#[10, 44, 239, 187, 191]⟩ : ByteArray) 191 w).mono fun e w' ⟨h1, h2⟩ => ⟨h1, h2.symm⟩)
  have hx : (⟨#[32, 9, 13, 10, 44, 239, 187, 191]⟩ : ByteArray).extract 3 8 = (⟨#[10, 44, 239, 187, 191]⟩ : ByteArray) := rfl
  have hs2 : (((⟨#[32, 9, 13, 10, 44, 239, 187, 191]⟩ : ByteArray)[2]'(by decide)).toNat : Int) = 13 := rfl
  obtain ⟨rs, hr⟩ : ∃ rs, Utf8.encode r = rs := ⟨_, rfl⟩
  have hz : rs.size = 3 := by rw [← hr, hrs.out]; rfl
  have e0 : ∀ hk, rs[0]'hk = 239 := by rw [← hr, hrs.out]; intro _; rfl
  have e1 : ∀ hk, rs[1]'hk = 187 := by rw [← hr, hrs.out]; intro _; rfl
  have e2 : ∀ hk, rs[2]'hk = 191 := by rw [← hr, hrs.out]; intro _; rfl
  clear hrs
  have hwr : IntKind.i64.wrap 3 = 3 := by decide
  go_enter Tryz.func45, Tryz.ntmps45
  go_wp2_with fail
  refine (HV.out _).mono ?_; rintro e w1 ⟨rfl, rfl⟩
  go_wp2_with fail
  go_step3
  go_wp2_with fail
  refine wp_loop_rounds 3 ?_
  rw [rounds_succ]
  go_wp2_with fail
  go_step3
  go_wp2_with fail
  go_quiet (fail)
  go_wp2_with fail
  go_region_held3 (fun W => Below w.heap.size w W) (first | assumption | exact ⟨rfl, rfl, rfl, Nat.le_refl _, fun _ _ => rfl⟩) (first | (go_at_call 21; refine (HX.out _).mono ?_; rintro e w3 ⟨rfl, rfl⟩) | fail)
  rename_i hS
  go_wp2_with fail
  have hq0 : (((⟨#[32, 9, 13, 10, 44, 239, 187, 191]⟩ : ByteArray)[6]'(by decide)).toNat : Int) = 187 := rfl
  have hq1 : (((⟨#[32, 9, 13, 10, 44, 239, 187, 191]⟩ : ByteArray)[5]'(by decide)).toNat : Int) = 239 := rfl
  refine wp_loop_rounds 5 ?_
  rw [rounds_succ]
  go_wp2_with fail
  (try (go_step3; go_wp2_with fail))
  go_quiet (fail)
  go_wp2_with fail
  rw [rounds_succ]
  go_wp2_with fail
  (try (go_step3; go_wp2_with fail))
  go_quiet (fail)
  go_wp2_with fail
  rw [rounds_succ]
  go_wp2_with fail
  rw [Exit.noGoto_ret]
  go_wp2_with fail
  (try (rw [Exit.noGoto_ret]))
  go_ret
  exact ⟨rfl, below_dN _ (Below.refl _ _)⟩
set_option maxRecDepth 100000 in
set_option maxHeartbeats 1000000 in
theorem rune_4_other (r : Int) (h : 128 ≤ r) (h2 : r ≤ 2147483647) (b0 b1 b2 b3 : UInt8) (he : ¬ r = 65533) (hrs : Hid (Utf8.encode r = ⟨#[b0, b1, b2, b3]⟩)) (HV : Hid (∀ w, Calls Tryz.prog 55 #[.int .i32 r] w fun e w' => e = .returned (.bool true) ∧ w = w')) (h128 : (128 : Int) ≤ ((b3.toNat : Nat) : Int)) (h191 : ((b3.toNat : Nat) : Int) ≤ 191) (hy : Hid (Lib.indexByte [44, 239, 187, 191] b3 = -1)) (w : World) :
    Calls Tryz.prog 45 #[.string ⟨#[32, 9, 13, 10, 44, 239, 187, 191]⟩, .int .i32 r] w fun e w' => e = .returned (.int .i64 (-1)) ∧ Below w.heap.size w w' := by
  have h0 : 0 ≤ r := by omega
  have h1 : ¬ r < 128 := by omega
  have HX : Hid (∀ w, Calls Tryz.prog 21 #[.string (⟨#[44, 239, 187, 191]⟩ : ByteArray), .int .u8 ((b3.toNat : Nat) : Int)] w fun e w' => e = .returned (.int .i64 (-1)) ∧ w = w') := Lib.hid (fun w => by
    have := Tryz.strings_IndexByte (⟨#[44, 239, 187, 191]⟩ : ByteArray) ((b3.toNat : Nat) : Int) w
    rw [show (((b3.toNat : Nat) : Int)).toNat.toUInt8 = b3 by simp, hy.out] at this
    exact this.mono fun e w' ⟨h1, h2⟩ => ⟨h1, h2.symm⟩)
  have hx : (⟨#[32, 9, 13, 10, 44, 239, 187, 191]⟩ : ByteArray).extract 4 8 = (⟨#[44, 239, 187, 191]⟩ : ByteArray) := rfl
  have hs3 : (((⟨#[32, 9, 13, 10, 44, 239, 187, 191]⟩ : ByteArray)[3]'(by decide)).toNat : Int) = 10 := rfl
  have hl1 : ¬ ((10 : Int) = ((b3.toNat : Nat) : Int)) := by omega
  obtain ⟨rs, hr⟩ : ∃ rs, Utf8.encode r = rs := ⟨_, rfl⟩
  have hz : rs.size = 4 := by rw [← hr, hrs.out]; rfl
  have e0 : ∀ hk, rs[0]'hk = b0 := by rw [← hr, hrs.out]; intro _; rfl
  have e1 : ∀ hk, rs[1]'hk = b1 := by rw [← hr, hrs.out]; intro _; rfl
  have e2 : ∀ hk, rs[2]'hk = b2 := by rw [← hr, hrs.out]; intro _; rfl
  have e3 : ∀ hk, rs[3]'hk = b3 := by rw [← hr, hrs.out]; intro _; rfl
  clear hrs
  have hwr : IntKind.i64.wrap 4 = 4 := by decide
  go_enter Tryz.func45, Tryz.ntmps45
  go_wp2_with fail
  refine (HV.out _).mono ?_; rintro e w1 ⟨rfl, rfl⟩
  go_wp2_with fail
  go_step3
  go_wp2_with fail
  refine wp_loop_rounds 3 ?_
  rw [rounds_succ]
  go_wp2_with fail
  go_step3
  go_wp2_with fail
  go_quiet (fail)
  go_wp2_with fail
  go_region_held3 (fun W => Below w.heap.size w W) (first | assumption | exact ⟨rfl, rfl, rfl, Nat.le_refl _, fun _ _ => rfl⟩) (first | (go_at_call 21; refine (HX.out _).mono ?_; rintro e w3 ⟨rfl, rfl⟩) | fail)
  rename_i hS
  go_wp2_with fail
  rw [Exit.noGoto_ret]
  go_wp2_with fail
  rw [Exit.noGoto_ret]
  go_ret
  exact ⟨rfl, hS⟩
set_option maxRecDepth 100000 in
set_option maxHeartbeats 1000000 in
theorem rune_4_187_n (r : Int) (h : 128 ≤ r) (h2 : r ≤ 2147483647) (b0 b1 b2 b3 : UInt8) (he : ¬ r = 65533) (hrs : Hid (Utf8.encode r = ⟨#[b0, b1, b2, b3]⟩)) (HV : Hid (∀ w, Calls Tryz.prog 55 #[.int .i32 r] w fun e w' => e = .returned (.bool true) ∧ w = w')) (h128 : (128 : Int) ≤ ((b3.toNat : Nat) : Int)) (h191 : ((b3.toNat : Nat) : Int) ≤ 191) (hy : b3 = 187) (k0 : ¬ ((239 : Int) = ((b2.toNat : Nat) : Int))) (w : World) :
    Calls Tryz.prog 45 #[.string ⟨#[32, 9, 13, 10, 44, 239, 187, 191]⟩, .int .i32 r] w fun e w' => e = .returned (.int .i64 (-1)) ∧ Below w.heap.size w w' := by
  have h0 : 0 ≤ r := by omega
  have h1 : ¬ r < 128 := by omega
  subst hy
  have HX : Hid (∀ w, Calls Tryz.prog 21 #[.string (⟨#[44, 239, 187, 191]⟩ : ByteArray), .int .u8 187] w fun e w' => e = .returned (.int .i64 2) ∧ w = w') := Lib.hid (fun w => (Tryz.strings_IndexByte (⟨#[44, 239, 187, 191]⟩ : ByteArray) 187 w).mono fun e w' ⟨h1, h2⟩ => ⟨h1, h2.symm⟩)
  have hx : (⟨#[32, 9, 13, 10, 44, 239, 187, 191]⟩ : ByteArray).extract 4 8 = (⟨#[44, 239, 187, 191]⟩ : ByteArray) := rfl
  have hs3 : (((⟨#[32, 9, 13, 10, 44, 239, 187, 191]⟩ : ByteArray)[3]'(by decide)).toNat : Int) = 10 := rfl
  obtain ⟨rs, hr⟩ : ∃ rs, Utf8.encode r = rs := ⟨_, rfl⟩
  have hz : rs.size = 4 := by rw [← hr, hrs.out]; rfl
  have e0 : ∀ hk, rs[0]'hk = b0 := by rw [← hr, hrs.out]; intro _; rfl
  have e1 : ∀ hk, rs[1]'hk = b1 := by rw [← hr, hrs.out]; intro _; rfl
  have e2 : ∀ hk, rs[2]'hk = b2 := by rw [← hr, hrs.out]; intro _; rfl
  have e3 : ∀ hk, rs[3]'hk = 187 := by rw [← hr, hrs.out]; intro _; rfl
  clear hrs
  have hwr : IntKind.i64.wrap 4 = 4 := by decide
  go_enter Tryz.func45, Tryz.ntmps45
  go_wp2_with fail
  refine (HV.out _).mono ?_; rintro e w1 ⟨rfl, rfl⟩
  go_wp2_with fail
  go_step3
  go_wp2_with fail
  refine wp_loop_rounds 3 ?_
  rw [rounds_succ]
  go_wp2_with fail
  refine wp_scope_once 0 rfl ?_
  go_wp2_with fail
  go_quiet (fail)
  go_wp2_with fail
  go_region_held3 (fun W => Below w.heap.size w W) (first | assumption | exact ⟨rfl, rfl, rfl, Nat.le_refl _, fun _ _ => rfl⟩) (first | (go_at_call 21; refine (HX.out _).mono ?_; rintro e w3 ⟨rfl, rfl⟩) | fail)
  rename_i hS
  go_wp2_with fail
  have hq0 : (((⟨#[32, 9, 13, 10, 44, 239, 187, 191]⟩ : ByteArray)[5]'(by decide)).toNat : Int) = 239 := rfl
  refine wp_loop_rounds 5 ?_
  rw [rounds_succ]
  go_wp2_with fail
  (try (go_step3; go_wp2_with fail))
  go_quiet (fail)
  go_wp2_with fail
  go_step3
  go_wp2_with fail
  refine jump_goto ?_
  go_wp2_with fail
  go_wp2
  rw [Exit.noGoto_normal]
  go_wp2_with fail
  have hs7 : (((⟨#[32, 9, 13, 10, 44, 239, 187, 191]⟩ : ByteArray)[7]'(by decide)).toNat : Int) = 191 := rfl
  rw [rounds_succ]
  go_wp2_with fail
  go_step3
  go_wp2_with fail
  go_quiet (fail)
  go_wp2_with fail
  have hx8 : (⟨#[32, 9, 13, 10, 44, 239, 187, 191]⟩ : ByteArray).extract 8 8 = ⟨#[]⟩ := rfl
  have hwr8 : IntKind.i64.wrap 8 = 8 := by decide
  have HX0 : Hid (∀ w, Calls Tryz.prog 21 #[.string ⟨#[]⟩, .int .u8 187] w fun e w' => e = .returned (.int .i64 (-1)) ∧ w = w') := Lib.hid (fun w => (Tryz.strings_IndexByte ⟨#[]⟩ 187 w).mono fun e w' ⟨h1, h2⟩ => ⟨h1, h2.symm⟩)
  clear hS
  go_region_held3 (fun W => Below w.heap.size w W) (first | assumption | exact ⟨rfl, rfl, rfl, Nat.le_refl _, fun _ _ => rfl⟩) (first | (go_at_call 21; refine (HX0.out _).mono ?_; rintro e w3 ⟨rfl, rfl⟩) | fail)
  rename_i hS
  go_wp2_with fail
  rw [Exit.noGoto_ret]
  go_wp2_with fail
  (try (rw [Exit.noGoto_ret]))
  go_ret
  exact ⟨rfl, below_dN _ (Below.refl _ _)⟩
set_option maxRecDepth 100000 in
set_option maxHeartbeats 1000000 in
theorem rune_4_191_n (r : Int) (h : 128 ≤ r) (h2 : r ≤ 2147483647) (b0 b1 b2 b3 : UInt8) (he : ¬ r = 65533) (hrs : Hid (Utf8.encode r = ⟨#[b0, b1, b2, b3]⟩)) (HV : Hid (∀ w, Calls Tryz.prog 55 #[.int .i32 r] w fun e w' => e = .returned (.bool true) ∧ w = w')) (h128 : (128 : Int) ≤ ((b3.toNat : Nat) : Int)) (h191 : ((b3.toNat : Nat) : Int) ≤ 191) (hy : b3 = 191) (k0 : ¬ ((187 : Int) = ((b2.toNat : Nat) : Int))) (w : World) :
    Calls Tryz.prog 45 #[.string ⟨#[32, 9, 13, 10, 44, 239, 187, 191]⟩, .int .i32 r] w fun e w' => e = .returned (.int .i64 (-1)) ∧ Below w.heap.size w w' := by
  have h0 : 0 ≤ r := by omega
  have h1 : ¬ r < 128 := by omega
  subst hy
  have HX : Hid (∀ w, Calls Tryz.prog 21 #[.string (⟨#[44, 239, 187, 191]⟩ : ByteArray), .int .u8 191] w fun e w' => e = .returned (.int .i64 3) ∧ w = w') := Lib.hid (fun w => (Tryz.strings_IndexByte (⟨#[44, 239, 187, 191]⟩ : ByteArray) 191 w).mono fun e w' ⟨h1, h2⟩ => ⟨h1, h2.symm⟩)
  have hx : (⟨#[32, 9, 13, 10, 44, 239, 187, 191]⟩ : ByteArray).extract 4 8 = (⟨#[44, 239, 187, 191]⟩ : ByteArray) := rfl
  have hs3 : (((⟨#[32, 9, 13, 10, 44, 239, 187, 191]⟩ : ByteArray)[3]'(by decide)).toNat : Int) = 10 := rfl
  obtain ⟨rs, hr⟩ : ∃ rs, Utf8.encode r = rs := ⟨_, rfl⟩
  have hz : rs.size = 4 := by rw [← hr, hrs.out]; rfl
  have e0 : ∀ hk, rs[0]'hk = b0 := by rw [← hr, hrs.out]; intro _; rfl
  have e1 : ∀ hk, rs[1]'hk = b1 := by rw [← hr, hrs.out]; intro _; rfl
  have e2 : ∀ hk, rs[2]'hk = b2 := by rw [← hr, hrs.out]; intro _; rfl
  have e3 : ∀ hk, rs[3]'hk = 191 := by rw [← hr, hrs.out]; intro _; rfl
  clear hrs
  have hwr : IntKind.i64.wrap 4 = 4 := by decide
  go_enter Tryz.func45, Tryz.ntmps45
  go_wp2_with fail
  refine (HV.out _).mono ?_; rintro e w1 ⟨rfl, rfl⟩
  go_wp2_with fail
  go_step3
  go_wp2_with fail
  refine wp_loop_rounds 3 ?_
  rw [rounds_succ]
  go_wp2_with fail
  refine wp_scope_once 0 rfl ?_
  go_wp2_with fail
  go_quiet (fail)
  go_wp2_with fail
  go_region_held3 (fun W => Below w.heap.size w W) (first | assumption | exact ⟨rfl, rfl, rfl, Nat.le_refl _, fun _ _ => rfl⟩) (first | (go_at_call 21; refine (HX.out _).mono ?_; rintro e w3 ⟨rfl, rfl⟩) | fail)
  rename_i hS
  go_wp2_with fail
  have hq0 : (((⟨#[32, 9, 13, 10, 44, 239, 187, 191]⟩ : ByteArray)[6]'(by decide)).toNat : Int) = 187 := rfl
  refine wp_loop_rounds 5 ?_
  rw [rounds_succ]
  go_wp2_with fail
  (try (go_step3; go_wp2_with fail))
  go_quiet (fail)
  go_wp2_with fail
  go_step3
  go_wp2_with fail
  refine jump_goto ?_
  go_wp2_with fail
  go_wp2
  rw [Exit.noGoto_normal]
  go_wp2_with fail
  rw [rounds_succ]
  go_wp2_with fail
  rw [Exit.noGoto_ret]
  go_wp2_with fail
  (try (rw [Exit.noGoto_ret]))
  go_ret
  exact ⟨rfl, below_dN _ (Below.refl _ _)⟩
set_option maxRecDepth 100000 in
set_option maxHeartbeats 1000000 in
theorem rune_4_191_yn (r : Int) (h : 128 ≤ r) (h2 : r ≤ 2147483647) (b0 b1 b2 b3 : UInt8) (he : ¬ r = 65533) (hrs : Hid (Utf8.encode r = ⟨#[b0, b1, b2, b3]⟩)) (HV : Hid (∀ w, Calls Tryz.prog 55 #[.int .i32 r] w fun e w' => e = .returned (.bool true) ∧ w = w')) (h128 : (128 : Int) ≤ ((b3.toNat : Nat) : Int)) (h191 : ((b3.toNat : Nat) : Int) ≤ 191) (hy : b3 = 191) (k0 : b2 = 187) (k1 : ¬ ((239 : Int) = ((b1.toNat : Nat) : Int))) (w : World) :
    Calls Tryz.prog 45 #[.string ⟨#[32, 9, 13, 10, 44, 239, 187, 191]⟩, .int .i32 r] w fun e w' => e = .returned (.int .i64 (-1)) ∧ Below w.heap.size w w' := by
  have h0 : 0 ≤ r := by omega
  have h1 : ¬ r < 128 := by omega
  subst hy
  subst k0
  have HX : Hid (∀ w, Calls Tryz.prog 21 #[.string (⟨#[44, 239, 187, 191]⟩ : ByteArray), .int .u8 191] w fun e w' => e = .returned (.int .i64 3) ∧ w = w') := Lib.hid (fun w => (Tryz.strings_IndexByte (⟨#[44, 239, 187, 191]⟩ : ByteArray) 191 w).mono fun e w' ⟨h1, h2⟩ => ⟨h1, h2.symm⟩)
  have hx : (⟨#[32, 9, 13, 10, 44, 239, 187, 191]⟩ : ByteArray).extract 4 8 = (⟨#[44, 239, 187, 191]⟩ : ByteArray) := rfl
  have hs3 : (((⟨#[32, 9, 13, 10, 44, 239, 187, 191]⟩ : ByteArray)[3]'(by decide)).toNat : Int) = 10 := rfl
  obtain ⟨rs, hr⟩ : ∃ rs, Utf8.encode r = rs := ⟨_, rfl⟩
  have hz : rs.size = 4 := by rw [← hr, hrs.out]; rfl
  have e0 : ∀ hk, rs[0]'hk = b0 := by rw [← hr, hrs.out]; intro _; rfl
  have e1 : ∀ hk, rs[1]'hk = b1 := by rw [← hr, hrs.out]; intro _; rfl
  have e2 : ∀ hk, rs[2]'hk = 187 := by rw [← hr, hrs.out]; intro _; rfl
  have e3 : ∀ hk, rs[3]'hk = 191 := by rw [← hr, hrs.out]; intro _; rfl
  clear hrs
  have hwr : IntKind.i64.wrap 4 = 4 := by decide
  go_enter Tryz.func45, Tryz.ntmps45
  go_wp2_with fail
  refine (HV.out _).mono ?_; rintro e w1 ⟨rfl, rfl⟩
  go_wp2_with fail
  go_step3
  go_wp2_with fail
  refine wp_loop_rounds 3 ?_
  rw [rounds_succ]
  go_wp2_with fail
  refine wp_scope_once 0 rfl ?_
  go_wp2_with fail
  go_quiet (fail)
  go_wp2_with fail
  go_region_held3 (fun W => Below w.heap.size w W) (first | assumption | exact ⟨rfl, rfl, rfl, Nat.le_refl _, fun _ _ => rfl⟩) (first | (go_at_call 21; refine (HX.out _).mono ?_; rintro e w3 ⟨rfl, rfl⟩) | fail)
  rename_i hS
  go_wp2_with fail
  have hq0 : (((⟨#[32, 9, 13, 10, 44, 239, 187, 191]⟩ : ByteArray)[6]'(by decide)).toNat : Int) = 187 := rfl
  have hq1 : (((⟨#[32, 9, 13, 10, 44, 239, 187, 191]⟩ : ByteArray)[5]'(by decide)).toNat : Int) = 239 := rfl
  refine wp_loop_rounds 5 ?_
  rw [rounds_succ]
  go_wp2_with fail
  (try (go_step3; go_wp2_with fail))
  go_quiet (fail)
  go_wp2_with fail
  rw [rounds_succ]
  go_wp2_with fail
  (try (go_step3; go_wp2_with fail))
  go_quiet (fail)
  go_wp2_with fail
  go_step3
  go_wp2_with fail
  refine jump_goto ?_
  go_wp2_with fail
  go_wp2
  rw [Exit.noGoto_normal]
  go_wp2_with fail
  rw [rounds_succ]
  go_wp2_with fail
  rw [Exit.noGoto_ret]
  go_wp2_with fail
  (try (rw [Exit.noGoto_ret]))
  go_ret
  exact ⟨rfl, below_dN _ (Below.refl _ _)⟩
end Go.Proofs.YtgclnjogoghhcaaGreatDoor
namespace Go.Proofs.YtgclnjogoghhcaaGreatDoor
open Go.RowKit
def hidB : List UInt8 := [32, 9, 13, 10, 44]
theorem set_arr : Tryz.prog.underlying 85 = some (.array 256 4) := by kernel_rfl
theorem set_size : (Tryz.prog.info? 85).map (·.size) = some 256 := by kernel_rfl
theorem set_zero (w : World) : (zeroValue 85).run Tryz.prog w = .ok (.agg (Array.replicate 256 (.bool false))) w := by kernel_rfl
set_option maxHeartbeats 4000000 in
set_option maxRecDepth 1000000 in
theorem set_none (w : World) : Calls Tryz.prog 41 #[.string ⟨#[32, 9, 13, 10, 44, 239, 187, 191]⟩] w fun e w' => e = .returned (.tuple #[.agg (Lib.setCells hidB), .bool false]) ∧ w' = w.alloc (.cells (Lib.setCells hidB) 85) := by
  have hv116 := set_zero
  obtain ⟨chars, hch⟩ : ∃ chars : ByteArray, (⟨#[32, 9, 13, 10, 44, 239, 187, 191]⟩ : ByteArray) = chars := ⟨_, rfl⟩
  have hs : chars.size = 8 := by rw [← hch]; rfl
  have HG : Hid (∀ i (h : i < 5), ∃ x : UInt8, chars[i]'(by omega) = x ∧ (x.toNat : Int) < 128 ∧ hidB.take (i + 1) = hidB.take i ++ [x]) := Lib.hid (by
    subst hch
    intro i h
    match i, h with
    | 0, _ => exact ⟨32, rfl, by decide, rfl⟩
    | 1, _ => exact ⟨9, rfl, by decide, rfl⟩
    | 2, _ => exact ⟨13, rfl, by decide, rfl⟩
    | 3, _ => exact ⟨10, rfl, by decide, rfl⟩
    | 4, _ => exact ⟨44, rfl, by decide, rfl⟩)
  have HG5 : Hid (∀ h, ((chars[5]'h).toNat : Int) = 239) := Lib.hid (by subst hch; intro h; rfl)
  rw [hch]
  clear hch
  go_enter Tryz.func41, Tryz.ntmps41
  go_wp2
  rw [← Lib.setCells_nil]
  go_loopg [4] 5 (fun g s4 wx => ∃ i : Nat, i + g = 5 ∧ s4 = .int .i64 i ∧ wx = w.alloc (.cells (Lib.setCells (hidB.take i)) 85))
  case atStart => exact ⟨0, by omega, rfl, rfl⟩
  case round =>
    obtain ⟨i, hig, rfl, rfl⟩ := hrel
    cases gk with
    | zero =>
      obtain rfl : i = 5 := by omega
      have hiz : ((5 : Int) < (chars.size : Int)) := by omega
      have h239 := HG5.out (by omega)
      have hge : (128 : Int) ≤ ((chars[5]'(by omega)).toNat : Int) := by omega
      clear h239
      rw [show hidB.take 5 = hidB from rfl]
      have hld := run_loadVar_new (P := Tryz.prog) w 85 (Lib.setCells hidB) 256 4 set_arr (by rw [Lib.setCells_size]; exact set_size)
      have hsz := Lib.setCells_size hidB
      have hi2 : (Tryz.prog.info? 85).map (·.size) = some (Lib.setCells hidB).size := by rw [hsz]; exact set_size
      have hsc := run_storeCells_new (P := Tryz.prog) w 85 (Lib.setCells hidB) (Lib.setCells hidB) hi2 rfl (Lib.setCells_one _)
      clear hsz
      go_wp2
      refine wp_load_row _ _ rfl w.heap.size rfl _ (Lib.setCells hidB) (0, 0) _ (heap_alloc_last _ _) set_arr rfl hi2 ?_
      go_wp2
      (try (rw [Oper.upon_skip]; go_wp2))
      (try simp only [Exit.inBlock, Exit.then])
      refine bodyPost_ret (v := .tuple #[.agg (Lib.setCells hidB), .bool false]) ?_ rfl ⟨rfl, rfl⟩
      rw [results_cell_tmp rfl]
      simp [asAddr, Result.andThen, hld]
    | succ g =>
      have hi : i < chars.size := by omega
      have hiz : (i : Int) < (chars.size : Int) := by omega
      obtain ⟨x, hx, hlt, HT⟩ := HG.out i (by omega)
      have hx128 : ¬ ((128 : Int) ≤ (x.toNat : Int)) := by omega
      have hx256 : (x.toNat : Int) < 256 := by omega
      have hcell := Lib.setCells_at (hidB.take i) x
      have HT := Lib.hid HT
      go_wp2
      go_roundg g
      case measure => omega
      case rel => exact ⟨i + 1, by omega, by first | rfl | simp, by rw [HT.out, Lib.setCells_snoc]⟩
end Go.Proofs.YtgclnjogoghhcaaGreatDoor
