/- Walks and plain laws of this proof, joined from smaller texts (1). -/
import Derived.WalkKit
import Derived.Lib.ParseIntBCases
import Derived.Lib.ItoaMem
import Derived.Lib.SlTrimSet
import Derived.WalkSpells
import Derived.Handy
import Derived.Lib.Hide
import Derived.Lib.IndexBytes
import Derived.Lib.ItoaLen
import Derived.Lib.ValidLaws
import Derived.Lib.UnsafeStr
import Derived.Lib.BufferRead
import Derived.Laws.IdiomStrings
import Derived.Laws.AppendOwn
import Derived.OwnWalk
import Derived.Laws.Rows
import Derived.Test.YtbejhdhhkpllfaaGreatDoorRows
import Derived.IntWalk
import Derived.LoopTactic
import Derived.Deep.LoopGhost
import Derived.Deep.QuietTactic
import Derived.BigQuiet
import Derived.Deep.RegionHeld3
import Derived.Outline
import Derived.Laws.EntriesVeiled
import Derived.Maps.RangeWalk
import Derived.Maps.AppendAt
import Derived.Laws.OwnMore
import Derived.Laws.AppendOwnNone
import Derived.Test.YtbejhdhhkpllfaaGreatDoorShelh
import Derived.Test.YtbejhdhhkpllfaaGreatDoorShelf
import Derived.Shelf.Strings.SlTrimAscii
import Derived.StillTailTactics
import Derived.Deep.Light
import Derived.Deep.RegionWith
import Derived.Deep.Draws
import Derived.Maps.OwnOps
import Derived.Maps.Views
import Derived.Maps.Keyed
import Derived.StringKeys
import Derived.Maps.OwnSet
import Derived.Laws.Cover3
import Derived.Carry
import Derived.Tactics
import Derived.Tactics2
import Derived.Defers
import Derived.Recover
import Derived.Laws.Pointers
import Derived.Laws.RangeAny
import Derived.Laws.Cover4
import Derived.Laws.RangeString
import Derived.ScopeJumps
import Derived.Lib.AsciiSet
import Derived.Deep.WholeRow
import Derived.Laws.ResultCell
import Derived.Lib.IndexAny
import Derived.Lib.OthersKept
import Derived.Lib.MapLaws
import Derived.Shelf.Strings.Builder1
import Derived.Laws.LoneSync
import Derived.Deep.DeepCutAuto
import Derived.RegionCalls
import Derived.Lib.Bytealg
import Derived.Lib.Strings
import Derived.Laws.Tables
import Derived.Laws.CopyOwn
set_option linter.unusedSimpArgs false
set_option linter.unusedVariables false
namespace Go.Proofs.YtbejhdhhkpllfaaGreatDoor
open Go.RowKit

/-- A number of 64 bits. -/
def R (n : Int) : Prop := -9223372036854775808 ≤ n ∧ n ≤ 9223372036854775807
/-- A number that may be, or 0. -/
def val (n : Int) : Int := if -9223372036854775808 ≤ n ∧ n ≤ 9223372036854775807 then n else 0
/-- The error's number. -/
def err (n : Int) : Int := if -9223372036854775808 ≤ n ∧ n ≤ 9223372036854775807 then 0 else 20
theorem val_in {n : Int} (h : R n) : val n = n := if_pos h
theorem err_in {n : Int} (h : R n) : err n = 0 := if_pos h
theorem err_out {n : Int} (h : ¬ R n) : err n = 20 := if_neg h
theorem R_of_wf {n : Int} (h : (Lit.int .i64 n).wf = true) : R n := by
  simp [Lit.wf, IntKind.min, IntKind.max, IntKind.signed, IntKind.bits] at h
  unfold R; omega
def far (n : Int) : Int := if n < 0 then -n else n
end Go.Proofs.YtbejhdhhkpllfaaGreatDoor
namespace Go.Proofs.YtbejhdhhkpllfaaGreatDoor
open Go.RowKit Go.Lib

def isDig (c : UInt8) : Bool := decide (48 ≤ c.toNat ∧ c.toNat ≤ 57)
def allDig (l : List UInt8) : Bool := l.all isDig
/-- Are they digits, one at least? -/
def digitsB (l : List UInt8) : Bool := l.all isDig && !l.isEmpty
/-- A digit's value. -/
def dv (c : UInt8) : Nat := c.toNat - 48
/-- The number of digits. -/
def numFrom (a : Nat) (l : List UInt8) : Nat := l.foldl (fun a c => a * 10 + dv c) a
def num (l : List UInt8) : Nat := numFrom 0 l
/-- Is there a sign? -/
def below (l : List UInt8) : Bool := match l with | c :: _ => c == 45 | [] => false
/-- What stands behind the sign. -/
def body (l : List UInt8) : List UInt8 := if below l then l.tail else l
/-- Digits without a nought ahead. -/
def okDigits (l : List UInt8) : Bool := digitsB l && !(l.head? == some 48 && decide (1 < l.length))
def signed (l : List UInt8) : Int := if below l then -(num (body l) : Int) else num (body l)
def rdV (l : List UInt8) : Int := if okDigits (body l) then val (signed l) else 0
def rdE (l : List UInt8) : Int := if okDigits (body l) then err (signed l) else 21
theorem numFrom_cons (a : Nat) (c : UInt8) (r : List UInt8) : numFrom a (c :: r) = numFrom (a * 10 + dv c) r := by unfold numFrom; rw [List.foldl_cons]
theorem numFrom_nil (a : Nat) : numFrom a [] = a := by unfold numFrom; rw [List.foldl_nil]
theorem num_one (c : UInt8) : num [c] = dv c := by rw [num, numFrom_cons, numFrom_nil]; omega
theorem numFrom_ge : ∀ (l : List UInt8) (a : Nat), a ≤ numFrom a l
  | [], a => by rw [numFrom_nil]; exact Nat.le_refl a
  | c :: r, a => by rw [numFrom_cons]; exact Nat.le_trans (by omega) (numFrom_ge r (a * 10 + dv c))
theorem numFrom_append (l m : List UInt8) : ∀ a, numFrom a (l ++ m) = numFrom (numFrom a l) m := by
  induction l with
  | nil => intro a; rw [List.nil_append, numFrom_nil]
  | cons c r ih => intro a; rw [List.cons_append, numFrom_cons, numFrom_cons]; exact ih _
theorem num_snoc (l : List UInt8) (c : UInt8) : num (l ++ [c]) = num l * 10 + dv c := by
  unfold num; rw [numFrom_append, numFrom_cons, numFrom_nil]
theorem numFrom_take_le (l : List UInt8) (k : Nat) : num (l.take k) ≤ num l := by
  have h := numFrom_ge (l.drop k) (num (l.take k))
  have e : num l = numFrom (num (l.take k)) (l.drop k) := by
    unfold num; rw [← numFrom_append, List.take_append_drop]
  rw [e]; exact h
theorem hasPrefix_dash (l : List UInt8) : Lib.hasPrefix l [45] = below l := by
  cases l with
  | nil => rfl
  | cons c r =>
    show ([45] : List UInt8).isPrefixOf (c :: r) = (c == 45)
    simp only [List.isPrefixOf, Bool.and_true]
    rw [Bool.eq_iff_iff]; simp only [beq_iff_eq]; exact eq_comm
theorem trimPrefix_dash (l : List UInt8) : Lib.trimPrefix l [45] = body l := by
  unfold Lib.trimPrefix body
  rw [hasPrefix_dash]
  cases l <;> rfl
theorem dig_iff (c : UInt8) : ([48, 49, 50, 51, 52, 53, 54, 55, 56, 57] : List UInt8).contains c = isDig c := by
  have h : ∀ n : Fin 256, ([48, 49, 50, 51, 52, 53, 54, 55, 56, 57] : List UInt8).contains (UInt8.ofNat n.val) = isDig (UInt8.ofNat n.val) := by decide +kernel
  have := h ⟨c.toNat, c.toNat_lt⟩
  simpa using this
theorem dropWhile_all {p : UInt8 → Bool} {l : List UInt8} (h : l.all p = true) : l.dropWhile p = [] := by
  induction l with
  | nil => rfl
  | cons c r ih =>
    simp only [List.all_cons, Bool.and_eq_true] at h
    rw [List.dropWhile_cons, if_pos h.1]; exact ih h.2
theorem all_of_dropWhile {p : UInt8 → Bool} {l : List UInt8} (h : l.dropWhile p = []) : l.all p = true := by
  induction l with
  | nil => rfl
  | cons c r ih =>
    rw [List.dropWhile_cons] at h
    split at h
    · rename_i hc
      simp only [List.all_cons, Bool.and_eq_true]
      exact ⟨hc, ih h⟩
    · cases h
theorem all_reverse (p : UInt8 → Bool) (l : List UInt8) : l.reverse.all p = l.all p := by simp
/-- 'strings.Trim(s, set) == ""': are all bytes in the set? -/
theorem trimS_nil (l cs : List UInt8) : Lib.trimS l cs = [] ↔ l.all (cs.contains ·) = true := by
  unfold Lib.trimS Lib.trimLeftS Lib.trimRightS
  constructor
  · intro h
    have h1 := all_of_dropWhile h
    rw [all_reverse] at h1
    -- what is left by the trimming from the right has a last byte outside the set, unless it is empty
    rw [← all_reverse]
    cases hd : (l.reverse.dropWhile (cs.contains ·)) with
    | nil => exact all_of_dropWhile hd
    | cons c r =>
      rw [hd] at h1
      have hc : ¬ cs.contains c = true := by
        have := List.head_dropWhile_not (p := (cs.contains ·)) (l := l.reverse) (by rw [hd]; simp)
        simp only [hd, List.head_cons] at this
        exact fun e => by rw [this] at e; cases e
      simp only [List.all_cons, Bool.and_eq_true] at h1
      exact absurd h1.1 hc
  · intro h
    rw [← all_reverse] at h
    rw [dropWhile_all h]; rfl
theorem trim_digits (l : List UInt8) : Lib.trimS l [48, 49, 50, 51, 52, 53, 54, 55, 56, 57] = [] ↔ l.all isDig = true := by
  rw [trimS_nil, show (([48, 49, 50, 51, 52, 53, 54, 55, 56, 57] : List UInt8).contains ·) = isDig from funext dig_iff]
theorem parseM_cons (M a : Nat) (c : UInt8) (r : List UInt8) (hc : 48 ≤ c.toNat ∧ c.toNat ≤ 57) : Lib.parseUintM M a (c :: r) =
    if 1844674407370955162 ≤ a then .range else if M < a * 10 + (c.toNat - 48) then .range else Lib.parseUintM M (a * 10 + (c.toNat - 48)) r := by
  simp only [Lib.parseUintM, hc, and_self, if_true]
theorem parse_digits (M : Nat) (hM : M ≤ 18446744073709551615) (l : List UInt8) : ∀ (a : Nat), l.all isDig = true → a ≤ M →
    Lib.parseUintM M a l = if numFrom a l ≤ M then .ok (numFrom a l) else .range := by
  induction l with
  | nil => intro a _ ha; rw [numFrom_nil, if_pos ha, Lib.parseUintM]
  | cons c r ih =>
    intro a h ha
    simp only [List.all_cons, Bool.and_eq_true] at h
    obtain ⟨hc, hr⟩ := h
    simp only [isDig, decide_eq_true_eq] at hc
    have hge := numFrom_ge r (a * 10 + dv c)
    rw [parseM_cons _ _ _ _ hc, numFrom_cons]
    rw [show c.toNat - 48 = dv c from rfl]
    by_cases h1 : 1844674407370955162 ≤ a
    · rw [if_pos h1, if_neg (by omega)]
    · rw [if_neg h1]
      by_cases h2 : M < a * 10 + dv c
      · rw [if_pos h2, if_neg (by omega)]
      · rw [if_neg h2]
        exact ih _ hr (by omega)
theorem most64 : 2 ^ 64 - 1 = 18446744073709551615 := by decide
theorem parse_ok (l : List UInt8) (h : digitsB l = true) (hn : num l ≤ 18446744073709551615) : Lib.parseUintB 64 l = .ok (num l) := by
  simp only [digitsB, Bool.and_eq_true, Bool.not_eq_true', List.isEmpty_eq_false_iff] at h
  unfold Lib.parseUintB
  rw [if_neg h.2, most64, parse_digits _ (Nat.le_refl _) l 0 h.1 (Nat.zero_le _), if_pos (show numFrom 0 l ≤ _ from hn)]; rfl
theorem parse_range (l : List UInt8) (h : digitsB l = true) (hn : ¬ num l ≤ 18446744073709551615) : Lib.parseUintB 64 l = .range := by
  simp only [digitsB, Bool.and_eq_true, Bool.not_eq_true', List.isEmpty_eq_false_iff] at h
  unfold Lib.parseUintB
  rw [if_neg h.2, most64, parse_digits _ (Nat.le_refl _) l 0 h.1 (Nat.zero_le _), if_neg (show ¬ numFrom 0 l ≤ _ from hn)]
theorem digit_nat {d : Nat} (h : d < 10) : (UInt8.ofNat (48 + d)).toNat = 48 + d := by
  rw [UInt8.toNat_ofNat']; omega
theorem dec_all (u : Nat) : (Lib.decDigits u).all isDig = true ∧ Lib.decDigits u ≠ [] ∧ num (Lib.decDigits u) = u := by
  induction u using Nat.strongRecOn with
  | _ u ih =>
    rw [Lib.decDigits]
    by_cases h : u < 10
    · rw [dif_pos h]
      refine ⟨?_, by simp, ?_⟩
      · simp only [List.all_cons, List.all_nil, isDig, digit_nat h, Bool.and_true, decide_eq_true_eq]; omega
      · rw [num_one, dv, digit_nat h]; omega
    · rw [dif_neg h]
      obtain ⟨h1, h2, h3⟩ := ih (u / 10) (by omega)
      refine ⟨?_, by simp, ?_⟩
      · rw [List.all_append, h1]
        simp only [List.all_cons, List.all_nil, isDig, digit_nat (Nat.mod_lt u (by decide : 10 > 0)), Bool.and_true, Bool.true_and, decide_eq_true_eq]; omega
      · rw [num_snoc, h3, dv, digit_nat (Nat.mod_lt u (by decide : 10 > 0))]; omega
theorem dec_head (u : Nat) (h : 0 < u) : (Lib.decDigits u).head? ≠ some 48 := by
  induction u using Nat.strongRecOn with
  | _ u ih =>
    rw [Lib.decDigits]
    by_cases hu : u < 10
    · rw [dif_pos hu]
      simp only [List.head?_cons, ne_eq, Option.some.injEq]
      intro e
      have := congrArg UInt8.toNat e
      rw [digit_nat hu] at this
      simp at this; omega
    · rw [dif_neg hu, List.head?_append]
      have h1 := ih (u / 10) (by omega) (by omega)
      have h2 := (dec_all (u / 10)).2.1
      cases hd : Lib.decDigits (u / 10) with
      | nil => exact absurd hd h2
      | cons c r => rw [hd] at h1; simpa using h1
theorem dec_ok (u : Nat) : okDigits (Lib.decDigits u) = true := by
  obtain ⟨h1, h2, _⟩ := dec_all u
  unfold okDigits digitsB
  rw [h1]
  have : (Lib.decDigits u).isEmpty = false := by simpa using h2
  rw [this]
  by_cases h : 0 < u
  · have := dec_head u h
    simp [this]
  · obtain rfl : u = 0 := by omega
    decide +kernel
theorem dec_notdash (u : Nat) : below (Lib.decDigits u) = false := by
  obtain ⟨h1, h2, _⟩ := dec_all u
  cases hd : Lib.decDigits u with
  | nil => rfl
  | cons c r =>
    rw [hd] at h1
    simp only [List.all_cons, Bool.and_eq_true, isDig, decide_eq_true_eq] at h1
    show (c == 45) = false
    rw [beq_eq_false_iff_ne]
    rintro rfl
    exact absurd h1.1.1 (by decide)
theorem read_itoa (n : Int) : okDigits (body (Lib.itoa n)) = true ∧ signed (Lib.itoa n) = n := by
  unfold Lib.itoa
  by_cases h : n < 0
  · rw [if_pos h]
    have hb : below (45 :: Lib.decDigits n.natAbs) = true := rfl
    have e : body (45 :: Lib.decDigits n.natAbs) = Lib.decDigits n.natAbs := by unfold body; rw [hb]; rfl
    refine ⟨by rw [e]; exact dec_ok _, ?_⟩
    unfold signed
    rw [hb, e, (dec_all _).2.2]
    simp only [if_true]; omega
  · rw [if_neg h]
    have hb := dec_notdash n.toNat
    have e : body (Lib.decDigits n.toNat) = Lib.decDigits n.toNat := by unfold body; rw [hb]; rfl
    refine ⟨by rw [e]; exact dec_ok _, ?_⟩
    unfold signed
    rw [hb, e, (dec_all _).2.2]
    simp only [Bool.false_eq_true, if_false]; omega
theorem rdV_itoa (n : Int) (h : R n) : rdV (Lib.itoa n) = n := by
  obtain ⟨h1, h2⟩ := read_itoa n
  unfold rdV; rw [if_pos h1, h2, val_in h]
theorem rdE_itoa (n : Int) (h : R n) : rdE (Lib.itoa n) = 0 := by
  obtain ⟨h1, h2⟩ := read_itoa n
  unfold rdE; rw [if_pos h1, h2, err_in h]
theorem ok_dec : ∀ (n : Nat) (l : List UInt8), l.length = n → okDigits l = true → Lib.decDigits (num l) = l ∧ (1 < l.length → 10 ≤ num l) := by
  intro n
  induction n with
  | zero => intro l hl h; rw [List.length_eq_zero_iff.1 hl] at h; exact absurd h (by decide)
  | succ n ih =>
    intro l hl h
    have hne : l ≠ [] := by intro e; rw [e] at hl; simp at hl
    obtain ⟨m, c, rfl⟩ : ∃ m c, l = m ++ [c] := ⟨l.dropLast, l.getLast hne, (List.dropLast_concat_getLast hne).symm⟩
    simp only [okDigits, digitsB, Bool.and_eq_true, List.all_append, List.all_cons, List.all_nil, Bool.and_true] at h
    obtain ⟨⟨⟨hm, hc⟩, _⟩, hz⟩ := h
    simp only [isDig, decide_eq_true_eq] at hc
    have hml : m.length = n := by simpa using hl
    by_cases hm0 : m = []
    · subst hm0
      have e : num ([] ++ [c]) = c.toNat - 48 := num_one c
      rw [e]
      refine ⟨?_, fun h1 => by simp at h1⟩
      rw [Lib.decDigits_one (by omega)]
      simp only [List.nil_append, List.cons.injEq, and_true]
      apply UInt8.toNat_inj.1
      rw [digit_nat (by omega)]; omega
    · have hh : (m ++ [c]).head? = m.head? := by cases m with
        | nil => exact absurd rfl hm0
        | cons a r => rfl
      have hlen : 1 < (m ++ [c]).length := by
        have : 0 < m.length := List.length_pos_iff.2 hm0
        simp; omega
      rw [hh] at hz
      simp only [decide_eq_true hlen, Bool.and_true, Bool.not_eq_true', beq_eq_false_iff_ne, ne_eq] at hz
      have hmok : okDigits m = true := by
        simp only [okDigits, digitsB, hm, Bool.true_and, Bool.and_eq_true, Bool.not_eq_true']
        refine ⟨by simpa using hm0, ?_⟩
        have : (m.head? == some 48) = false := by rw [beq_eq_false_iff_ne]; exact hz
        rw [this]; rfl
      obtain ⟨h1, h2⟩ := ih m hml hmok
      have hpos : 1 ≤ num m := by
        by_cases h1l : 1 < m.length
        · have := h2 h1l; omega
        · have hl1 : m.length = 1 := by have : 0 < m.length := List.length_pos_iff.2 hm0; omega
          obtain ⟨a, rfl⟩ := List.length_eq_one_iff.1 hl1
          simp only [List.all_cons, List.all_nil, Bool.and_true, isDig, decide_eq_true_eq] at hm
          have ha : a.toNat ≠ 48 := by
            intro e
            apply hz
            simp only [List.head?_cons, Option.some.injEq]
            exact UInt8.toNat_inj.1 (by rw [e]; rfl)
          rw [num_one, dv]; omega
      rw [num_snoc, show dv c = c.toNat - 48 from rfl]
      refine ⟨?_, fun _ => by omega⟩
      rw [Lib.decDigits, dif_neg (by omega), show (num m * 10 + (c.toNat - 48)) / 10 = num m by omega, h1, show (num m * 10 + (c.toNat - 48)) % 10 = c.toNat - 48 by omega]
      congr 1
      simp only [List.cons.injEq, and_true]
      apply UInt8.toNat_inj.1
      rw [digit_nat (by omega)]; omega
/-- WHAT IS READ IS WRITTEN AS THE SAME DIGITS, but -0. -/
theorem itoa_read (l : List UInt8) (h : rdE l = 0) : Lib.itoa (rdV l) = l ∨ (l = [45, 48] ∧ rdV l = 0) := by
  unfold rdE at h
  split at h
  · rename_i hok
    have hR : R (signed l) := by
      by_cases hr : R (signed l)
      · exact hr
      · rw [err_out hr] at h; cases h
    unfold rdV
    rw [if_pos hok, val_in hR]
    obtain ⟨h1, h2⟩ := ok_dec _ _ rfl hok
    unfold signed
    cases hb : below l with
    | false =>
      have e : body l = l := by unfold body; rw [hb]; rfl
      rw [e] at h1 ⊢
      left
      simp only [Bool.false_eq_true, if_false]
      rw [Lib.itoa_nonneg, h1]
    | true =>
      have e : l = 45 :: body l := by
        cases l with
        | nil => cases hb
        | cons c r =>
          have : c = 45 := by simpa [below] using hb
          subst this
          unfold body; rw [hb]; rfl
      simp only [if_true]
      by_cases hz : num (body l) = 0
      · right
        have hb2 : body l = [48] := by rw [← h1, hz]; decide +kernel
        rw [hz]
        exact ⟨by rw [e, hb2], rfl⟩
      · left
        rw [Lib.itoa_neg _ (by omega), h1, ← e]
  · cases h
end Go.Proofs.YtbejhdhhkpllfaaGreatDoor
namespace Go.Proofs.YtbejhdhhkpllfaaGreatDoor
open Go.RowKit
theorem retS {a c : List UInt8} (h : a = c) : Ending.returned (.string ⟨a.toArray⟩) = .returned (.string ⟨c.toArray⟩) := by rw [h]
theorem take_snoc (s : ByteArray) (k : Nat) (h : k < s.size) : s.data.toList.take (k + 1) = s.data.toList.take k ++ [s[k]] := by
  rw [List.take_succ_eq_append_getElem (by simpa using h)]; rfl
theorem all_take_snoc (s : ByteArray) (k : Nat) (h : k < s.size) : (s.data.toList.take (k + 1)).all isDig = ((s.data.toList.take k).all isDig && isDig s[k]) := by
  rw [take_snoc s k h]; simp
theorem all_of_take (l : List UInt8) (k : Nat) (h : (l.take k).all isDig = false) : l.all isDig = false := by
  cases hl : l.all isDig with
  | false => rfl
  | true =>
    rw [List.all_eq_true] at hl
    have : (l.take k).all isDig = true := List.all_eq_true.2 fun x hx => hl x (List.mem_of_mem_take hx)
    rw [this] at h; cases h
theorem dig_of (c : UInt8) : isDig c = true ↔ 48 ≤ (c.toNat : Int) ∧ (c.toNat : Int) ≤ 57 := by
  unfold isDig; rw [decide_eq_true_eq]; omega
theorem dig_not {c : UInt8} (h : ¬ isDig c = true) : (c.toNat : Int) < 48 ∨ 57 < (c.toNat : Int) := by
  rw [dig_of] at h; omega
theorem itoa_small (n : Int) (h0 : 0 ≤ n) (h1 : n < 10) : Lib.itoa n = [UInt8.ofNat (48 + n.toNat)] := by
  obtain ⟨u, rfl⟩ := Int.eq_ofNat_of_zero_le h0
  rw [Lib.itoa_nonneg, Lib.decDigits_one (by omega)]; rfl
theorem itoa_minus (n : Int) (h : n < 0) : Lib.itoa n = 45 :: Lib.itoa (-n) := by
  obtain ⟨u, hu⟩ := Int.eq_ofNat_of_zero_le (show 0 ≤ -n by omega)
  rw [hu, Lib.itoa_nonneg, show n = -(u : Int) by omega, Lib.itoa_neg _ (by omega)]
theorem itoa_pos (n : Int) (h : 10 ≤ n) : Lib.itoa n = Lib.itoa (n / 10) ++ Lib.itoa (n % 10) := by
  obtain ⟨u, rfl⟩ := Int.eq_ofNat_of_zero_le (show 0 ≤ n by omega)
  rw [show (u : Int) / 10 = ((u / 10 : Nat) : Int) by omega, show (u : Int) % 10 = ((u % 10 : Nat) : Int) by omega, Lib.itoa_nonneg, Lib.itoa_nonneg, Lib.itoa_nonneg, Lib.decDigits, dif_neg (by omega), Lib.decDigits_one (Nat.mod_lt _ (by decide))]
theorem itoa_neg10 (n d : Int) (h : n ≤ -10) (hd : d = (-n) % 10) : Lib.itoa n = Lib.itoa (-((-n) / 10)) ++ Lib.itoa d := by
  rw [itoa_minus n (by omega), itoa_minus (-((-n) / 10)) (by omega), hd, Int.neg_neg, List.cons_append, ← itoa_pos (-n) (by omega)]
theorem tdiv10 (n : Int) (h : n < 0) : n.tdiv 10 = -((-n) / 10) := by
  rw [← Int.tdiv_eq_ediv_of_nonneg (by omega), Int.neg_tdiv, Int.neg_neg]
theorem tmod10 (n : Int) (h : n < 0) : n.tmod 10 = -((-n) % 10) := by
  rw [← Int.tmod_eq_emod_of_nonneg (by omega), Int.neg_tmod, Int.neg_neg]
theorem one_digit_fin : ∀ i : Fin 10, (⟨#[48, 49, 50, 51, 52, 53, 54, 55, 56, 57]⟩ : ByteArray).extract i.val (i.val + 1) = ⟨[UInt8.ofNat (48 + i.val)].toArray⟩ := by decide +kernel
theorem one_digit (n : Int) (h0 : 0 ≤ n) (h1 : n < 10) : (⟨#[48, 49, 50, 51, 52, 53, 54, 55, 56, 57]⟩ : ByteArray).extract n.toNat (n + 1).toNat = ⟨(Lib.itoa n).toArray⟩ := by
  rw [itoa_small n h0 h1, show (n + 1).toNat = n.toNat + 1 by omega]
  exact one_digit_fin ⟨n.toNat, by omega⟩
theorem retB {a c : ByteArray} (h : a = c) : Ending.returned (.string a) = .returned (.string c) := by rw [h]
theorem len_itoa {n : Int} (h : R n) : (Lib.itoa n).length ≤ 21 := Lib.itoa_length_le n h.1 h.2
theorem cat (a b : List UInt8) : (⟨a.toArray⟩ : ByteArray) ++ ⟨b.toArray⟩ = ⟨(a ++ b).toArray⟩ := by
  apply ByteArray.ext; simp
/-- So far: the number of the first digits, by its sign. -/
def part (b : Bool) (l : List UInt8) (k : Nat) : Int := if b then -(num (l.take k) : Int) else num (l.take k)
theorem part_all (b : Bool) (l : List UInt8) (k : Nat) (h : l.length ≤ k) : part b l k = if b then -(num l : Int) else num l := by
  unfold part; rw [List.take_of_length_le h]
theorem part_zero (b : Bool) (l : List UInt8) : R (part b l 0) := by
  have e : part b l 0 = 0 := by cases b <;> rfl
  rw [e]; unfold R; omega
theorem part_false_sign (l : List UInt8) (k : Nat) : 0 ≤ part false l k := by unfold part; simp
theorem part_true_sign (l : List UInt8) (k : Nat) : part true l k ≤ 0 := by unfold part; simp
theorem part_false_step (s : ByteArray) (k : Nat) (h : k < s.size) (h0 : 48 ≤ (s[k].toNat : Int)) : part false s.data.toList (k + 1) = part false s.data.toList k * 10 + ((s[k].toNat : Int) - 48) := by
  unfold part; rw [take_snoc s k h, num_snoc, dv]
  have : 48 ≤ s[k].toNat := by omega
  simp; omega
theorem part_true_step (s : ByteArray) (k : Nat) (h : k < s.size) (h0 : 48 ≤ (s[k].toNat : Int)) : part true s.data.toList (k + 1) = part true s.data.toList k * 10 + -((s[k].toNat : Int) - 48) := by
  unfold part; rw [take_snoc s k h, num_snoc, dv]
  have : 48 ≤ s[k].toNat := by omega
  simp; omega
theorem part_le (l : List UInt8) (k : Nat) : (num (l.take k) : Int) ≤ num l := Int.ofNat_le.2 (numFrom_take_le l k)
/-- Once it has run over, it has run over to the end. -/
theorem part_over (b : Bool) (l : List UInt8) (k : Nat) (h : ¬ R (part b l k)) : ¬ R (if b then -(num l : Int) else num l) := by
  have := part_le l k
  unfold part R at *
  cases b <;> simp at * <;> omega
theorem all_at (s : ByteArray) (k : Nat) (h : k < s.size) (ha : digitsB s.data.toList = true) : 48 ≤ (s[k].toNat : Int) ∧ (s[k].toNat : Int) ≤ 57 := by
  simp only [digitsB, Bool.and_eq_true] at ha
  have := List.all_eq_true.1 ha.1 s[k] (by rw [show s[k] = s.data.toList[k]'(by simpa using h) from by simp; rfl]; exact List.getElem_mem _)
  exact (dig_of _).1 this
theorem size_pos_of (s : ByteArray) (h : digitsB s.data.toList = true) : 0 < s.size := by
  simp only [digitsB, Bool.and_eq_true, Bool.not_eq_true', List.isEmpty_eq_false_iff] at h
  rcases Nat.eq_zero_or_pos s.size with h0 | h0
  · exact absurd (List.eq_nil_of_length_eq_zero (by simpa using h0)) h.2
  · exact h0
theorem head_zero (s : ByteArray) (h : 0 < s.size) : (s.data.toList.head? == some 48) = ((s[0].toNat : Int) == 48) := by
  have e : s.data.toList.head? = some s[0] := by
    rw [List.head?_eq_getElem?, List.getElem?_eq_getElem (by simpa using h)]; rfl
  rw [e, Bool.eq_iff_iff]
  simp only [beq_iff_eq, Option.some.injEq]
  constructor
  · intro q; rw [q]; rfl
  · intro q; exact UInt8.toNat_inj.1 (by have : (48 : UInt8).toNat = 48 := rfl; omega)
theorem below_eq (s : ByteArray) (h : 0 < s.size) : below s.data.toList = ((s[0].toNat : Int) == 45) := by
  obtain ⟨c, r, hl⟩ : ∃ c r, s.data.toList = c :: r := by
    cases hl : s.data.toList with
    | nil => have h2 : s.data.toList.length = 0 := by rw [hl]; rfl
             rw [Array.length_toList] at h2; change 0 < s.data.size at h; omega
    | cons c r => exact ⟨c, r, rfl⟩
  have e : s[0] = c := by
    have : s.data.toList[0]? = some s[0] := by rw [List.getElem?_eq_getElem (by simpa using h)]; rfl
    rw [hl] at this; simpa using this.symm
  rw [hl, e, Bool.eq_iff_iff]
  simp only [below, beq_iff_eq]
  constructor
  · intro q; rw [q]; rfl
  · intro q; exact UInt8.toNat_inj.1 (by have : (45 : UInt8).toNat = 45 := rfl; omega)
theorem ok_size (s : ByteArray) (h : digitsB s.data.toList = true) (hp : 0 < s.size) (hz : (s[0].toNat : Int) = 48 → s.size ≤ 1) : okDigits s.data.toList = true := by
  unfold okDigits
  rw [h, head_zero s hp]
  by_cases h0 : (s[0].toNat : Int) = 48
  · have := hz h0
    have hl : decide (1 < s.data.toList.length) = false := by rw [Array.length_toList]; exact decide_eq_false (by change ¬ 1 < s.size; omega)
    rw [hl]; simp
  · have : ((s[0].toNat : Int) == 48) = false := by simpa using h0
    rw [this]; rfl
theorem not_ok_zero (s : ByteArray) (hp : 0 < s.size) (hz : (s[0].toNat : Int) = 48) (h1 : 1 < s.size) : okDigits s.data.toList = false := by
  unfold okDigits
  rw [head_zero s hp, hz]
  have hl : decide (1 < s.data.toList.length) = true := by rw [Array.length_toList]; exact decide_eq_true h1
  rw [hl]; simp
theorem not_ok_dig (l : List UInt8) (h : digitsB l = false) : okDigits l = false := by unfold okDigits; rw [h]; rfl
end Go.Proofs.YtbejhdhhkpllfaaGreatDoor
namespace Go.Proofs.YtbejhdhhkpllfaaGreatDoor
open Go.Lib
def isPt (n : Nat) : Bool := decide (n ≤ 1114111 ∧ (n < 55296 ∨ 57343 < n))
def encN (n : Nat) : List UInt8 :=
  if n < 128 then [UInt8.ofNat n] else if n < 2048 then [UInt8.ofNat (192 + n / 64), UInt8.ofNat (128 + n % 64)]
  else if n < 65536 then [UInt8.ofNat (224 + n / 4096), UInt8.ofNat (128 + n / 64 % 64), UInt8.ofNat (128 + n % 64)]
  else [UInt8.ofNat (240 + n / 262144), UInt8.ofNat (128 + n / 4096 % 64), UInt8.ofNat (128 + n / 64 % 64), UInt8.ofNat (128 + n % 64)]
/-- What the bytes of one code point would tell. -/
def numN : List UInt8 → Nat
  | [a] => a.toNat
  | [a, b] => 64 * (a.toNat % 32) + b.toNat % 64
  | [a, b, c] => 64 * (64 * (a.toNat % 16) + b.toNat % 64) + c.toNat % 64
  | [a, b, c, d] => 64 * (64 * (64 * (a.toNat % 8) + b.toNat % 64) + c.toNat % 64) + d.toNat % 64
  | _ => 0
def oneB (l : List UInt8) (k : Nat) : Bool := decide (k ≤ l.length) && (isPt (numN (l.take k)) && encN (numN (l.take k)) == l.take k)
theorem ofN (n : Nat) (h : n < 256) : (UInt8.ofNat n).toNat = n := by rw [UInt8.toNat_ofNat']; omega
theorem toN {x : UInt8} {n : Nat} (h : x.toNat = n) : UInt8.ofNat n = x := by rw [← h, UInt8.ofNat_toNat]
theorem enc_len (n : Nat) (h : isPt n = true) : (encN n).length = if n < 128 then 1 else if n < 2048 then 2 else if n < 65536 then 3 else 4 := by
  unfold encN; repeat' split
  all_goals first | rfl | omega
/-- The bytes of a code point are decoded as it. -/
theorem decode_enc (n : Nat) (h : isPt n = true) (t : List UInt8) : decodeL (encN n ++ t) = (n, (encN n).length) := by
  simp only [isPt, decide_eq_true_eq] at h
  rw [decodeL_N]
  unfold encN
  by_cases h1 : n < 128
  · rw [if_pos h1]
    simp only [List.cons_append, List.nil_append, List.getD_cons_zero, List.length_cons, List.length_nil]
    rw [ofN n (by omega)]
    unfold decodeN
    rw [if_pos h1]
  · rw [if_neg h1]
    by_cases h2 : n < 2048
    · rw [if_pos h2]
      simp only [List.cons_append, List.nil_append, List.getD_cons_zero, List.getD_cons_succ, List.length_cons, List.length_nil]
      rw [ofN _ (by omega), ofN _ (by omega)]
      unfold decodeN
      rw [if_neg (by omega), if_pos (by omega), if_pos (by omega)]
      exact Prod.ext (by show _ = n; omega) rfl
    · rw [if_neg h2]
      by_cases h3 : n < 65536
      · rw [if_pos h3]
        simp only [List.cons_append, List.nil_append, List.getD_cons_zero, List.getD_cons_succ, List.length_cons, List.length_nil]
        rw [ofN _ (by omega), ofN _ (by omega), ofN _ (by omega)]
        unfold decodeN
        rw [if_neg (by omega), if_neg (by omega), if_pos (by omega), if_pos (by omega)]
        exact Prod.ext (by show _ = n; omega) rfl
      · rw [if_neg h3]
        simp only [List.cons_append, List.nil_append, List.getD_cons_zero, List.getD_cons_succ, List.length_cons, List.length_nil]
        rw [ofN _ (by omega), ofN _ (by omega), ofN _ (by omega), ofN _ (by omega)]
        unfold decodeN
        rw [if_neg (by omega), if_neg (by omega), if_neg (by omega), if_pos (by omega), if_pos (by omega)]
        exact Prod.ext (by show _ = n; omega) rfl
theorem decode_one (l : List UInt8) (k : Nat) (h : oneB l k = true) : decodeL l = (numN (l.take k), k) := by
  simp only [oneB, Bool.and_eq_true, decide_eq_true_eq, beq_iff_eq] at h
  obtain ⟨h1, h2, h3⟩ := h
  have e : l = encN (numN (l.take k)) ++ l.drop k := by rw [h3, List.take_append_drop]
  have := decode_enc (numN (l.take k)) h2 (l.drop k)
  rw [← e, h3] at this
  rw [this, List.length_take, Nat.min_eq_left h1]
/-- What is decoded well is one code point's bytes. -/
theorem one_decode (l : List UInt8) (hne : l ≠ []) (hv : ¬ ((decodeL l).1 = 65533 ∧ (decodeL l).2 = 1)) : oneB l (decodeL l).2 = true ∧ numN (l.take (decodeL l).2) = (decodeL l).1 ∧ 1 ≤ (decodeL l).2 ∧ (decodeL l).2 ≤ 4 := by
  have hl : 0 < l.length := List.length_pos_iff.2 hne
  rw [decodeL_N] at hv ⊢
  have k0 := (l.getD 0 0).toNat_lt
  have k1 := (l.getD 1 0).toNat_lt
  have k2 := (l.getD 2 0).toNat_lt
  have k3 := (l.getD 3 0).toNat_lt
  rcases decodeN_shape l.length (l.getD 0 0).toNat (l.getD 1 0).toNat (l.getD 2 0).toNat (l.getD 3 0).toNat with ⟨c, e⟩ | ⟨c1, c2, c3, cv, e⟩ | ⟨c1, c2, c3, c4, cv, cs, e⟩ | ⟨c1, c2, c3, c4, c5, cv, cw, e⟩ | e
  · rw [e]
    dsimp only
    have hn : numN (l.take 1) = (l.getD 0 0).toNat := by rw [takeA l hl]; rfl
    refine ⟨?_, hn, by omega, by omega⟩
    unfold oneB
    rw [hn, takeA l hl, decide_eq_true (by omega)]
    simp only [Bool.true_and, Bool.and_eq_true, beq_iff_eq]
    refine ⟨by simp only [isPt, decide_eq_true_eq]; omega, ?_⟩
    unfold encN
    rw [if_pos c, toN rfl]
  · rw [e]
    dsimp only
    have hn : numN (l.take 2) = (l.getD 0 0).toNat % 32 * 64 + (l.getD 1 0).toNat % 64 := by rw [takeB l c2]; simp only [numN]; omega
    refine ⟨?_, hn, by omega, by omega⟩
    unfold oneB
    rw [hn, takeB l c2, decide_eq_true (by omega)]
    simp only [Bool.true_and, Bool.and_eq_true, beq_iff_eq]
    refine ⟨by simp only [isPt, decide_eq_true_eq]; omega, ?_⟩
    unfold encN
    rw [if_neg (by omega), if_pos (by omega), toN (x := l.getD 0 0) (by omega), toN (x := l.getD 1 0) (by omega)]
  · rw [e]
    dsimp only
    have hn : numN (l.take 3) = (l.getD 0 0).toNat % 16 * 4096 + (l.getD 1 0).toNat % 64 * 64 + (l.getD 2 0).toNat % 64 := by rw [takeC l c2]; simp only [numN]; omega
    refine ⟨?_, hn, by omega, by omega⟩
    unfold oneB
    rw [hn, takeC l c2, decide_eq_true (by omega)]
    simp only [Bool.true_and, Bool.and_eq_true, beq_iff_eq]
    refine ⟨by simp only [isPt, decide_eq_true_eq]; omega, ?_⟩
    unfold encN
    rw [if_neg (by omega), if_neg (by omega), if_pos (by omega), toN (x := l.getD 0 0) (by omega), toN (x := l.getD 1 0) (by omega), toN (x := l.getD 2 0) (by omega)]
  · rw [e]
    dsimp only
    have hn : numN (l.take 4) = (l.getD 0 0).toNat % 8 * 262144 + (l.getD 1 0).toNat % 64 * 4096 + (l.getD 2 0).toNat % 64 * 64 + (l.getD 3 0).toNat % 64 := by rw [takeD l c2]; simp only [numN]; omega
    refine ⟨?_, hn, by omega, by omega⟩
    unfold oneB
    rw [hn, takeD l c2, decide_eq_true (by omega)]
    simp only [Bool.true_and, Bool.and_eq_true, beq_iff_eq]
    refine ⟨by simp only [isPt, decide_eq_true_eq]; omega, ?_⟩
    unfold encN
    rw [if_neg (by omega), if_neg (by omega), if_neg (by omega), toN (x := l.getD 0 0) (by omega), toN (x := l.getD 1 0) (by omega), toN (x := l.getD 2 0) (by omega), toN (x := l.getD 3 0) (by omega)]
  · rw [e] at hv
    exact absurd ⟨rfl, rfl⟩ hv
/-- Is the first code point well? -/
def wellB (l : List UInt8) : Bool := !decide ((decodeL l).1 = 65533 ∧ (decodeL l).2 = 1)
/-- The sizes are tried in order: the first that fits is the decoded one's. -/
theorem one_iff (l : List UInt8) (hne : l ≠ []) (k : Nat) (hk : 1 ≤ k) (hk4 : k ≤ 4) : oneB l k = (wellB l && decide (k = (decodeL l).2)) := by
  by_cases hv : (decodeL l).1 = 65533 ∧ (decodeL l).2 = 1
  · have hw : wellB l = false := by unfold wellB; rw [decide_eq_true hv]; rfl
    rw [hw, Bool.false_and]
    cases h : oneB l k with
    | false => rfl
    | true =>
      exfalso
      have e := decode_one l k h
      rw [e] at hv
      obtain ⟨hv1, hv2⟩ := hv
      simp only at hv1 hv2
      subst hv2
      simp only [oneB, Bool.and_eq_true, beq_iff_eq] at h
      have := congrArg List.length h.2.2
      rw [hv1] at this
      rw [List.length_take] at this
      have h3 : (encN 65533).length = 3 := by decide
      omega
  · have hw : wellB l = true := by unfold wellB; rw [decide_eq_false hv]; rfl
    obtain ⟨g1, g2, g3, g4⟩ := one_decode l hne hv
    rw [hw, Bool.true_and]
    by_cases e : k = (decodeL l).2
    · rw [decide_eq_true e, e]; exact g1
    · rw [decide_eq_false e]
      cases h : oneB l k with
      | false => rfl
      | true => exact absurd (congrArg Prod.snd (decode_one l k h)).symm e
/-- A text's code points: how the document reads it. -/
theorem valid_step (l : List UInt8) (hne : l ≠ []) : validD l = (wellB l && validD (l.drop (decodeL l).2)) := by
  rw [validD_step l hne]
  unfold wellB
  by_cases h : (decodeL l).1 = 65533 ∧ (decodeL l).2 = 1
  · rw [if_pos h, decide_eq_true h]; rfl
  · rw [if_neg h, decide_eq_false h]; rfl
/-- The code points of a text. -/
def ptsGo : Nat → List UInt8 → List Nat
  | 0, _ => []
  | n + 1, l => if l = [] then [] else (decodeL l).1 :: ptsGo n (l.drop (decodeL l).2)
def pts (l : List UInt8) : List Nat := ptsGo l.length l
theorem ptsGo_nil : ∀ n, ptsGo n [] = []
  | 0 => rfl
  | n + 1 => by simp [ptsGo]
theorem ptsGo_fuel : ∀ (n m : Nat) (l : List UInt8), l.length ≤ n → l.length ≤ m → ptsGo n l = ptsGo m l
  | 0, m, l, hn, _ => by
    have : l = [] := List.eq_nil_of_length_eq_zero (by omega)
    subst this
    rw [ptsGo_nil, ptsGo_nil]
  | n + 1, 0, l, _, hm => by
    have : l = [] := List.eq_nil_of_length_eq_zero (by omega)
    subst this
    rw [ptsGo_nil, ptsGo_nil]
  | n + 1, m + 1, l, hn, hm => by
    unfold ptsGo
    by_cases hne : l = []
    · simp [hne]
    · have hw := decodeL_width l
      have hl : 0 < l.length := List.length_pos_iff.2 hne
      rw [if_neg hne, if_neg hne, ptsGo_fuel n m (l.drop (decodeL l).2) (by rw [List.length_drop]; omega) (by rw [List.length_drop]; omega)]
theorem pts_nil : pts [] = [] := rfl
theorem pts_step (l : List UInt8) (hne : l ≠ []) : pts l = (decodeL l).1 :: pts (l.drop (decodeL l).2) := by
  have hl : 0 < l.length := List.length_pos_iff.2 hne
  have hw := decodeL_width l
  obtain ⟨n, hn⟩ : ∃ n, l.length = n + 1 := ⟨l.length - 1, by omega⟩
  unfold pts
  rw [hn]
  show (if l = [] then [] else _) = _
  rw [if_neg hne, ptsGo_fuel n (l.drop (decodeL l).2).length _ (by rw [List.length_drop]; omega) (Nat.le_refl _)]
end Go.Proofs.YtbejhdhhkpllfaaGreatDoor
namespace Go.Proofs.YtbejhdhhkpllfaaGreatDoor
open Go.Lib
def nameC (c : UInt8) : Bool := decide ((97 ≤ c.toNat ∧ c.toNat ≤ 122) ∨ (65 ≤ c.toNat ∧ c.toNat ≤ 90) ∨ c.toNat = 95 ∨ (48 ≤ c.toNat ∧ c.toNat ≤ 57))
/-- Is a text a name? -/
def nameB : List UInt8 → Bool
  | [] => false
  | c :: r => !isDig c && (c :: r).all nameC
def marksL : List UInt8 := [33, 36, 38, 40, 41, 58, 61, 64, 91, 93, 123, 124, 125]
def markB (l : List UInt8) : Bool := l == [46, 46, 46] || (match l with | [c] => marksL.contains c | _ => false)
def textB (l : List UInt8) : Bool := decide (l.length ≤ 16384) && validD l
/-- A token: its kind, its text, where it stood. -/
structure Tok where
  kind : UInt8
  text : List UInt8
  pos : Int
/-- May a token be? -/
def okT (t : Tok) : Bool :=
  if t.kind = 0 then t.text.isEmpty else if t.kind = 1 then nameB t.text else if t.kind = 2 then okDigits (body t.text) else if t.kind = 3 then textB t.text else if t.kind = 4 then markB t.text else false
def hexD (n : Nat) : UInt8 := if n < 10 then UInt8.ofNat (48 + n) else UInt8.ofNat (87 + n)
def quoteC (c : UInt8) : List UInt8 :=
  if c = 34 ∨ c = 92 then [92, c] else if c = 8 then [92, 98] else if c = 9 then [92, 116] else if c = 10 then [92, 110] else if c = 12 then [92, 102] else if c = 13 then [92, 114]
  else if c.toNat < 32 then [92, 117, 48, 48, hexD (c.toNat / 16), hexD (c.toNat % 16)] else [c]
/-- A text, quoted. -/
def quoteL (l : List UInt8) : List UInt8 := [34] ++ l.flatMap quoteC ++ [34]
def tellT (t : Tok) : List UInt8 := if t.kind = 3 then quoteL t.text else t.text
/-- May tokens be joined? -/
def okTs : List Tok → Bool
  | [] => true
  | [t] => okT t
  | t :: r => okT t && !(t.kind == 0) && okTs r
/-- Their text: the first, and each other one behind a blank (the end has none). -/
def restT : List Tok → List UInt8
  | [] => []
  | t :: r => (if t.kind = 0 then [] else [32]) ++ tellT t ++ restT r
def joinT : List Tok → List UInt8
  | [] => []
  | t :: r => tellT t ++ restT r
/-- Their words: none for the end. -/
def wordsT : List Tok → List (List UInt8)
  | [] => []
  | t :: r => if t.kind = 0 then wordsT r else tellT t :: wordsT r
def joinW : List (List UInt8) → List UInt8
  | [] => []
  | [x] => x
  | x :: y :: r => x ++ [32] ++ joinW (y :: r)
theorem joinW_cons (x : List UInt8) (r : List (List UInt8)) : joinW (x :: r) = x ++ (r.flatMap fun y => 32 :: y) := by
  induction r generalizing x with
  | nil => simp [joinW]
  | cons y r ih => rw [joinW, ih, List.flatMap_cons]; simp
theorem rest_words : ∀ L : List Tok, okTs L = true → restT L = (wordsT L).flatMap fun y => 32 :: y
  | [], _ => rfl
  | [t], h => by
    unfold restT wordsT
    by_cases hk : t.kind = 0
    · rw [if_pos hk, if_pos hk]
      have h' : okT t = true := h
      unfold okT at h'
      rw [if_pos hk] at h'
      have : t.text = [] := List.isEmpty_iff.1 h'
      unfold tellT restT wordsT
      rw [if_neg (by rw [hk]; decide), this]; rfl
    · rw [if_neg hk, if_neg hk]
      simp [restT, wordsT]
  | t :: u :: r, h => by
    have h' : (okT t && !(t.kind == 0) && okTs (u :: r)) = true := by simpa [okTs] using h
    simp only [Bool.and_eq_true, Bool.not_eq_true', beq_eq_false_iff_ne] at h'
    obtain ⟨⟨h1, h2⟩, h3⟩ := h'
    rw [restT, wordsT, if_neg h2, if_neg h2, rest_words (u :: r) h3, List.flatMap_cons]
    simp
theorem join_words (L : List Tok) (h : okTs L = true) : joinT L = joinW (wordsT L) := by
  cases L with
  | nil => rfl
  | cons t r =>
    by_cases hk : t.kind = 0
    · have hr : r = [] := by
        cases r with
        | nil => rfl
        | cons u r =>
          have h' : (okT t && !(t.kind == 0) && okTs (u :: r)) = true := by simpa [okTs] using h
          simp [hk] at h'
      subst hr
      have := rest_words [t] h
      rw [joinT, wordsT, if_pos hk]
      have h' : okT t = true := h
      unfold okT at h'
      rw [if_pos hk] at h'
      have ht : t.text = [] := List.isEmpty_iff.1 h'
      unfold tellT restT wordsT
      rw [if_neg (by rw [hk]; decide), ht]; rfl
    · rw [joinT, wordsT, if_neg hk, joinW_cons]
      congr 1
      cases r with
      | nil => rfl
      | cons u r =>
        have h' : (okT t && !(t.kind == 0) && okTs (u :: r)) = true := by simpa [okTs] using h
        simp only [Bool.and_eq_true] at h'
        exact rest_words (u :: r) h'.2
end Go.Proofs.YtbejhdhhkpllfaaGreatDoor
namespace Go.Proofs.YtbejhdhhkpllfaaGreatDoor
open Go.Lib
structure Cel where
  kind : UInt8
  name : List UInt8
  text : List UInt8
  num : Int
  many : Int
/-- May a cell be, but for its name, and for what stands in it? -/
def oneC (c : Cel) : Bool :=
  if c.kind = 0 then c.text.isEmpty && c.num == 0 && c.many == 0
  else if c.kind = 1 then c.text.isEmpty && (c.num == 0 || c.num == 1) && c.many == 0
  else if c.kind = 2 then c.text.isEmpty && c.many == 0
  else if c.kind = 3 then textB c.text && c.num == 0 && c.many == 0
  else if c.kind = 4 ∨ c.kind = 5 then nameB c.text && c.num == 0 && c.many == 0
  else if c.kind = 6 ∨ c.kind = 7 then c.text.isEmpty && c.num == 0 && decide (0 ≤ c.many)
  else false
def nestC (c : Cel) : Bool := c.kind == 6 || c.kind == 7
def amongB (l : List (List UInt8)) (n : List UInt8) : Bool := l.any fun x => x == n
/-- May an item, a member, have that name, behind those that have been? -/
def okN (isL : Bool) (names : List (List UInt8)) (n : List UInt8) : Bool := if isL then n.isEmpty else !n.isEmpty && textB n && !amongB names n
/-- How many cells so many items, members, have. -/
def kidsN (val : List Cel → Option Nat) (isL : Bool) : Nat → List (List UInt8) → List Cel → Option Nat
  | 0, _, _ => some 0
  | _ + 1, _, [] => none
  | n + 1, names, c :: r =>
    if okN isL names c.name then
      match val (c :: r) with
      | none => none
      | some k => (kidsN val isL n (c.name :: names) ((c :: r).drop k)).map (k + ·)
    else none
def headN (kids : Cel → List Cel → Option Nat) : List Cel → Option Nat
  | [] => none
  | c :: r => if oneC c then (if nestC c then (kids c r).map (1 + ·) else some 1) else none
/-- How many cells the value has that begins a list, at most so many in each other. -/
def valN : Nat → List Cel → Option Nat
  | 0 => headN fun _ _ => none
  | d + 1 => headN fun c r => kidsN (valN d) (c.kind == 6) c.many.toNat [] r
theorem kidsN_le (val : List Cel → Option Nat) (hv : ∀ l k, val l = some k → 1 ≤ k ∧ k ≤ l.length) (isL : Bool) : ∀ (n : Nat) (names : List (List UInt8)) (l : List Cel) (k : Nat), kidsN val isL n names l = some k → n ≤ k ∧ k ≤ l.length
  | 0, names, l, k, h => by
    have : k = 0 := (Option.some.inj h).symm
    omega
  | n + 1, names, [], k, h => by cases h
  | n + 1, names, c :: r, k, h => by
    rw [kidsN] at h
    split at h
    · split at h
      · cases h
      · rename_i k1 hk1
        obtain ⟨g1, g2⟩ := hv _ _ hk1
        rw [Option.map_eq_some_iff] at h
        obtain ⟨k2, hk2, rfl⟩ := h
        have := kidsN_le val hv isL n _ _ k2 hk2
        rw [List.length_drop] at this
        omega
    · cases h
theorem headN_cons (kids : Cel → List Cel → Option Nat) (c : Cel) (r : List Cel) : headN kids (c :: r) = if oneC c then (if nestC c then (kids c r).map (1 + ·) else some 1) else none := rfl
theorem valN_zero (l : List Cel) : valN 0 l = headN (fun _ _ => none) l := rfl
theorem valN_more (d : Nat) (l : List Cel) : valN (d + 1) l = headN (fun c r => kidsN (valN d) (c.kind == 6) c.many.toNat [] r) l := rfl
theorem headN_le (kids : Cel → List Cel → Option Nat) (hk : ∀ c r k, kids c r = some k → k ≤ r.length) (l : List Cel) (k : Nat) (h : headN kids l = some k) : 1 ≤ k ∧ k ≤ l.length := by
  cases l with
  | nil => cases h
  | cons c r =>
    rw [headN_cons] at h
    rw [List.length_cons]
    cases h1 : oneC c with
    | false => rw [h1] at h; cases h
    | true =>
      cases h2 : nestC c with
      | false =>
        rw [h1, h2] at h
        have : k = 1 := (Option.some.inj h).symm
        omega
      | true =>
        rw [h1, h2, if_pos rfl, if_pos rfl, Option.map_eq_some_iff] at h
        obtain ⟨k2, hk2, rfl⟩ := h
        have := hk _ _ _ hk2
        omega
theorem valN_le : ∀ (d : Nat) (l : List Cel) (k : Nat), valN d l = some k → 1 ≤ k ∧ k ≤ l.length
  | 0, l, k, h => headN_le _ (fun c r k h => by cases h) l k h
  | d + 1, l, k, h => headN_le _ (fun c r k h => (kidsN_le (valN d) (valN_le d) _ _ _ _ _ h).2) l k h
/-- More may be in each other: the same cells. -/
theorem kidsN_mono (f g : List Cel → Option Nat) (hfg : ∀ l k, f l = some k → g l = some k) (isL : Bool) : ∀ (n : Nat) (names : List (List UInt8)) (l : List Cel) (k : Nat), kidsN f isL n names l = some k → kidsN g isL n names l = some k
  | 0, names, l, k, h => h
  | n + 1, names, [], k, h => h
  | n + 1, names, c :: r, k, h => by
    rw [kidsN] at h ⊢
    split at h
    · rename_i hok
      rw [if_pos hok]
      split at h
      · cases h
      · rename_i k1 hk1
        rw [hfg _ _ hk1]
        rw [Option.map_eq_some_iff] at h
        obtain ⟨k2, hk2, rfl⟩ := h
        show (kidsN g isL n _ _).map _ = _
        rw [kidsN_mono f g hfg isL n _ _ k2 hk2]; rfl
    · cases h
theorem headN_mono (f g : Cel → List Cel → Option Nat) (hfg : ∀ c r k, f c r = some k → g c r = some k) (l : List Cel) (k : Nat) (h : headN f l = some k) : headN g l = some k := by
  cases l with
  | nil => cases h
  | cons c r =>
    rw [headN_cons] at h ⊢
    cases h1 : oneC c with
    | false => rw [h1] at h; cases h
    | true =>
      cases h2 : nestC c with
      | false => rw [h1, h2] at h; exact h
      | true =>
        rw [h1, h2, if_pos rfl, if_pos rfl, Option.map_eq_some_iff] at h
        obtain ⟨k2, hk2, rfl⟩ := h
        rw [if_pos rfl, if_pos rfl, hfg _ _ _ hk2]; rfl
theorem valN_succ : ∀ (d : Nat) (l : List Cel) (k : Nat), valN d l = some k → valN (d + 1) l = some k
  | 0, l, k, h => headN_mono _ _ (fun c r k h => by cases h) l k h
  | d + 1, l, k, h => headN_mono _ _ (fun c r k h => kidsN_mono (valN d) (valN (d + 1)) (valN_succ d) _ _ _ _ _ h) l k h
theorem valN_mono {d e : Nat} (h : d ≤ e) (l : List Cel) (k : Nat) (hv : valN d l = some k) : valN e l = some k := by
  induction h with
  | refl => exact hv
  | step _ ih => exact valN_succ _ _ _ ih
/-- Are cells a value? -/
def mayB (V : List Cel) : Bool := decide (0 < V.length) && decide (V.length ≤ 2048) && (V.headD ⟨0, [0], [], 0, 0⟩).name.isEmpty && (valN 16 V == some V.length)
def plainB (V : List Cel) : Bool := mayB V && V.all fun c => !(c.kind == 4 || c.kind == 5)
/-- Where the value ends that begins at a place; below 0: there is none. -/
def endI (V : List Cel) (at_ d : Nat) : Int := match valN d (V.drop at_) with | none => -1 | some k => ((at_ + k : Nat) : Int)
end Go.Proofs.YtbejhdhhkpllfaaGreatDoor
namespace Go.Proofs.YtbejhdhhkpllfaaGreatDoor
open Go.RowKit
/-- A slice of bytes of the call's own, from a block on, that reads as a list. -/
def Own (B : Nat) (v : Value) (l : List UInt8) (W : World) : Prop := W.ownsRow B 5 1 v l.length (Lib.byteCells l)
theorem Own.nil (B : Nat) (W : World) : Own B (.slice none 0 0) [] W := World.ownsRow_nil W B 5 1
theorem Own.below {B : Nat} {v : Value} {l : List UInt8} {w w' : World} (h : Own B v l w) (hb : Below w.heap.size w w') : Own B v l w' := by
  obtain ⟨h1, h2⟩ := h
  refine ⟨h1, ?_⟩
  rcases h2 with h2 | ⟨g, cap, cur, hv, hB, hg, hrest⟩
  · exact Or.inl h2
  · have hlt : g < w.heap.size := (Array.getElem?_eq_some_iff.1 hg).1
    exact Or.inr ⟨g, cap, cur, hv, hB, (hb.block g hlt).trans hg, hrest⟩
theorem Own.alloc {B : Nat} {v : Value} {l : List UInt8} {w : World} (h : Own B v l w) (o : Obj) : Own B v l (w.alloc o) := World.ownsRow.alloc h o
theorem Own.drew {B : Nat} {v : Value} {l : List UInt8} {w : World} (h : Own B v l w) : Own B v l w.drew := h
theorem Own.lt {B : Nat} {v : Value} {l : List UInt8} {w : World} (h : Own B v l w) : ∀ k, v.ownBlock = some k → B ≤ k := fun k hk => (World.ownsRow.lt h k hk).1
/-- A slice of bytes that was just laid. -/
theorem Own.fresh {l : List UInt8} {C : Array Value} {k : Nat} (hk : k = l.length) (hC : C.toList = Lib.byteCells l) (hl : l.length ≤ 1000000000) (W : World) : Own W.heap.size (.slice (some ⟨W.heap.size, 0, none⟩) k k) l (W.alloc (.cells C 5)) := by
  have hs : C.size = l.length := by
    have := congrArg List.length hC
    simpa [Lib.byteCells] using this
  refine ⟨by simp [Lib.byteCells], Or.inr ⟨W.heap.size, k, C, by rw [hk], Nat.le_refl _, heap_alloc_new W _, by omega, by unfold maxLen; omega, by omega, ?_⟩⟩
  rw [List.take_of_length_le (by simp; omega)]
  exact hC
theorem run_convert_own {B : Nat} {v : Value} {l : List UInt8} {w : World} (h : Own B v l w) : (convert 42 9 v).run Tryz.prog w = .ok (.string ⟨l.toArray⟩) w := by
  obtain ⟨h1, h2⟩ := h
  rcases h2 with ⟨rfl, h2⟩ | ⟨g, cap, cur, rfl, hB, hg, hn, hc, hcs, ht⟩
  · have : l = [] := List.eq_nil_of_length_eq_zero h2
    subst this
    exact Lib.run_convert_nil_bytes w 42 9 5 0 Tryz.underlying42 Tryz.underlying5 Tryz.underlying9
  · exact Go.run_convert_bytes_back w 42 9 5 ⟨g, 0, none⟩ cap l Tryz.underlying42 Tryz.underlying5 Tryz.underlying9 (Lib.bytes_of_row hg (by rw [Nat.mul_one] at ht; exact ht))
end Go.Proofs.YtbejhdhhkpllfaaGreatDoor
namespace Go.Proofs.YtbejhdhhkpllfaaGreatDoor
open Go.RowKit
theorem ret_i {a c : Int} (h : a = c) : Ending.returned (.int .i64 a) = .returned (.int .i64 c) := by rw [h]
theorem below_dN {B : Nat} {w w1 : World} (n : Nat) (h : Below B w w1) : Below B w (w1.drewN n) := h.trans ⟨rfl, rfl, rfl, Nat.le_refl _, fun _ _ => rfl⟩
theorem lt_of_cell {W : World} {b o : Nat} {v : Value} (h : W.cell? ⟨b, o, none⟩ = some v) : b < W.heap.size := by
  rcases Nat.lt_or_ge b W.heap.size with h' | h'
  · exact h'
  · exfalso
    have : W.heap[b]? = none := Array.getElem?_eq_none h'
    simp [World.cell?, this] at h
theorem heap_lt {b : Nat} {W : World} {o : Obj} (h : W.heap[b]? = some o) : b < W.heap.size := (Array.getElem?_eq_some_iff.1 h).1
theorem heap_old {b : Nat} {W : World} {o o' : Obj} (h : W.heap[b]? = some o) : (W.alloc o').heap[b]? = some o := by
  rw [Below.heap_alloc _ _ _ (Array.getElem?_eq_some_iff.1 h).1]; exact h
theorem heap_new (W : World) (o : Obj) (b : Nat) (hb : b = W.heap.size) : (W.alloc o).heap[b]? = some o := by rw [hb]; exact heap_alloc_new W o
/-- A cell's five values. -/
def celCells (c : Cel) : Array Value := #[.int .u8 (c.kind.toNat : Int), .string ⟨c.name.toArray⟩, .string ⟨c.text.toArray⟩, .int .i64 c.num, .int .i64 c.many]
/-- Cells that stand in a row from a place of a block on. -/
def CelRow (b off : Nat) (V : List Cel) (W : World) : Prop := ∀ (k : Nat) (h : k < V.length), W.cell? ⟨b, off + k * 5, none⟩ = some (.int .u8 (V[k].kind.toNat : Int)) ∧ W.cell? ⟨b, off + k * 5 + 1, none⟩ = some (.string ⟨V[k].name.toArray⟩) ∧ W.cell? ⟨b, off + k * 5 + 2, none⟩ = some (.string ⟨V[k].text.toArray⟩) ∧ W.cell? ⟨b, off + k * 5 + 3, none⟩ = some (.int .i64 V[k].num) ∧ W.cell? ⟨b, off + k * 5 + 4, none⟩ = some (.int .i64 V[k].many)
theorem CelRow.below {b off : Nat} {V : List Cel} {w w' : World} {B : Nat} (h : CelRow b off V w) (hb : Below B w w') (hlt : b < B) : CelRow b off V w' := by
  intro k hk
  obtain ⟨h0, h1, h2, h3, h4⟩ := h k hk
  exact ⟨(hb.cell (p := ⟨b, _, none⟩) hlt).trans h0, (hb.cell (p := ⟨b, _, none⟩) hlt).trans h1, (hb.cell (p := ⟨b, _, none⟩) hlt).trans h2, (hb.cell (p := ⟨b, _, none⟩) hlt).trans h3, (hb.cell (p := ⟨b, _, none⟩) hlt).trans h4⟩
theorem CelRow.below' {b off : Nat} {V : List Cel} {w w' : World} (h : CelRow b off V w) (hb : Below w.heap.size w w') : CelRow b off V w' := by
  intro k hk
  exact h.below hb (lt_of_cell (h k hk).1) k hk
theorem CelRow.lt {b off : Nat} {V : List Cel} {w : World} (h : CelRow b off V w) (hV : 0 < V.length) : b < w.heap.size := lt_of_cell (h 0 hV).1
/-- A slice that reads as cells. -/
def CelSl (v : Value) (V : List Cel) (W : World) : Prop := (∃ a cap, v = .slice a 0 cap ∧ V = [] ∧ (a = none → cap = 0)) ∨ ∃ b off cap, v = .slice (some ⟨b, off, none⟩) V.length cap ∧ CelRow b off V W ∧ 0 < V.length
theorem CelSl.below {v : Value} {V : List Cel} {w w' : World} (h : CelSl v V w) (hb : Below w.heap.size w w') : CelSl v V w' := by
  rcases h with h | ⟨b, off, cap, h1, h2, h3⟩
  · exact Or.inl h
  · exact Or.inr ⟨b, off, cap, h1, h2.below' hb, h3⟩
/-- Cells that a statement goes through. -/
def SmallV (V : List Cel) : Prop := V.length ≤ 100000 ∧ ∀ c ∈ V, c.name.length ≤ 100000 ∧ c.text.length ≤ 100000 ∧ R c.num ∧ R c.many
end Go.Proofs.YtbejhdhhkpllfaaGreatDoor
namespace Go.Proofs.YtbejhdhhkpllfaaGreatDoor
open Go.Lib
def blankJ (c : UInt8) : Bool := c == 32 || c == 9 || c == 13 || c == 10
def blJ (l : List UInt8) : List UInt8 := l.dropWhile blankJ
/-- A text that has to stand next: what stands behind it. -/
def tkJ (what l : List UInt8) : Option (List UInt8) := if what.isPrefixOf l then some (l.drop what.length) else none
/-- Behind a part of a number that has digits. -/
def partJ (mark sign : UInt8 → Bool) : List UInt8 → Option (List UInt8)
  | [] => none
  | c :: r => if mark c then
      (let r1 := if (r.head?.map sign).getD false then r.tail else r
       if (r1.takeWhile isDig).isEmpty then none else some (r1.dropWhile isDig)) else none
/-- The digits ahead of a point. -/
def wholeJ (l : List UInt8) : List UInt8 := if l.head? == some 48 then [48] else l.takeWhile isDig
def pointJ : List UInt8 → Option (List UInt8) := partJ (fun c => c == 46) (fun _ => false)
def powerJ : List UInt8 → Option (List UInt8) := partJ (fun c => c == 101 || c == 69) (fun c => c == 43 || c == 45)
def numJ (l : List UInt8) : Except Int (Int × List UInt8) :=
  let d := wholeJ (body l)
  if d.isEmpty then .error 40 else
  let l2 := (body l).drop d.length
  let l3 := (pointJ l2).getD l2
  let l4 := (powerJ l3).getD l3
  let t := (if below l then [45] else []) ++ d
  if (pointJ l2).isSome || (powerJ l3).isSome || rdE t != 0 then .error 41 else .ok (rdV t, l4)
def hexJ (c : UInt8) : Option Nat :=
  if 48 ≤ c.toNat ∧ c.toNat ≤ 57 then some (c.toNat - 48) else if 97 ≤ c.toNat ∧ c.toNat ≤ 102 then some (c.toNat - 87)
  else if 65 ≤ c.toNat ∧ c.toNat ≤ 70 then some (c.toNat - 55) else none
/-- So many digits to the base of 16, behind a number. -/
def hexsJ : Nat → Nat → List UInt8 → Option (Nat × List UInt8)
  | 0, n, l => some (n, l)
  | _ + 1, _, [] => none
  | k + 1, n, c :: r => match hexJ c with
    | none => none
    | some d => hexsJ k (n * 16 + d) r
/-- What the letters behind a backslash tell that tell one byte. -/
def letJ (c : UInt8) : Option Nat :=
  if c = 34 then some 34 else if c = 92 then some 92 else if c = 47 then some 47 else if c = 98 then some 8 else if c = 102 then some 12
  else if c = 110 then some 10 else if c = 114 then some 13 else if c = 116 then some 9 else none
/-- Behind a high half: the low one. -/
def lowJ (n : Nat) (l : List UInt8) : Option (Nat × List UInt8) := match tkJ [92, 117] l with
  | none => none
  | some r => match hexsJ 4 0 r with
    | none => none
    | some (m, t) => if m < 56320 ∨ 57343 < m then none else some (65536 + (n - 55296) * 1024 + (m - 56320), t)
def escJ : List UInt8 → Option (Nat × List UInt8)
  | [] => none
  | c :: r => match letJ c with
    | some p => some (p, r)
    | none => if c ≠ 117 then none else match hexsJ 4 0 r with
      | none => none
      | some (n, t) => if 56320 ≤ n ∧ n ≤ 57343 then none else if 55296 ≤ n ∧ n ≤ 56319 then lowJ n t else some (n, t)
/-- Behind the first quote: the code points, and what stands behind the last quote. -/
def strGo : Nat → List UInt8 → Option (List Nat × List UInt8)
  | 0, _ => none
  | _ + 1, [] => none
  | f + 1, c :: r => if c = 34 then some ([], r) else if c.toNat < 32 then none
    else if c = 92 then (match escJ r with
      | none => none
      | some (p, t) => (strGo f t).map fun x => (p :: x.1, x.2))
    else (strGo f ((c :: r).drop (decodeL (c :: r)).2)).map fun x => ((decodeL (c :: r)).1 :: x.1, x.2)
def strJ (l : List UInt8) : Option (List UInt8 × List UInt8) := match tkJ [34] l with
  | none => none
  | some r => (strGo r.length r).map fun x => (x.1.flatMap encN, x.2)
/-- A member's name and the colon: the name, what stands behind. -/
def memJ (nm : List (List UInt8)) (l : List UInt8) : Except Int (List UInt8 × List UInt8) := match strJ l with
  | none => .error 40
  | some (s, t) => if nm.contains s then .error 42 else if s.isEmpty then .error 8 else match tkJ [58] (blJ t) with
    | none => .error 40
    | some r => .ok (s, r)
/-- The items, the members, until the bracket: how many, what stands behind it, the cells. -/
def itemsJ (val : List UInt8 → List UInt8 → List Cel → Except Int (List UInt8 × List Cel)) (isO : Bool) : Nat → Nat → List (List UInt8) → List UInt8 → List Cel → Except Int (Nat × List UInt8 × List Cel)
  | 0, _, _, _, _ => .error 40
  | f + 1, n, nm, l, out => match tkJ [if isO then 125 else 93] l with
    | some r => .ok (n, r, out)
    | none => match (if n = 0 then some l else (tkJ [44] l).map blJ) with
      | none => .error 40
      | some l1 => match (if isO then memJ nm l1 else .ok ([], l1)) with
        | .error e => .error e
        | .ok (s, l2) => match val s l2 out with
          | .error e => .error e
          | .ok (l3, out2) => itemsJ val isO f (n + 1) (if isO then s :: nm else nm) (blJ l3) out2
def begJ (c : UInt8) : Bool := c == 123 || c == 91 || c == 34 || c == 116 || c == 102 || c == 110 || c == 45 || isDig c
def manyAt (k n : Nat) (out : List Cel) : List Cel := out.modify k fun c => { c with many := (n : Int) }
/-- A value that has nothing under it. -/
def leafJ (name : List UInt8) (c : UInt8) (l : List UInt8) (out : List Cel) : Except Int (List UInt8 × List Cel) :=
  if c = 34 then (match strJ l with | none => .error 40 | some (s, t) => .ok (t, out ++ [⟨3, name, s, 0, 0⟩]))
  else if c = 116 then (match tkJ [116, 114, 117, 101] l with | none => .error 40 | some t => .ok (t, out ++ [⟨1, name, [], 1, 0⟩]))
  else if c = 102 then (match tkJ [102, 97, 108, 115, 101] l with | none => .error 40 | some t => .ok (t, out ++ [⟨1, name, [], 0, 0⟩]))
  else if c = 110 then (match tkJ [110, 117, 108, 108] l with | none => .error 40 | some t => .ok (t, out ++ [⟨0, name, [], 0, 0⟩]))
  else (match numJ l with | .error e => .error e | .ok (n, t) => .ok (t, out ++ [⟨2, name, [], n, 0⟩]))
/-- A value: so many brackets more may be opened. -/
def valJ : Nat → List UInt8 → List UInt8 → List Cel → Except Int (List UInt8 × List Cel)
  | d, name, l, out => match blJ l with
    | [] => .error 40
    | c :: r => if !begJ c then .error 40 else if out.length = 2048 then .error 4 else
      if c = 123 ∨ c = 91 then (match d with
        | 0 => .error 30
        | d + 1 => match itemsJ (valJ d) (c == 123) (r.length + 1) 0 [] (blJ r) (out ++ [⟨if c = 123 then 7 else 6, name, [], 0, 0⟩]) with
          | .error e => .error e
          | .ok (n, t, out2) => .ok (t, manyAt out.length n out2))
      else leafJ name c (c :: r) out
/-- What json.Read tells of bytes that are a text. -/
def readJ (l : List UInt8) : Except Int (List Cel) := match valJ 16 [] l [] with
  | .error e => .error e
  | .ok (t, out) => if (blJ t).isEmpty then .ok out else .error 40
end Go.Proofs.YtbejhdhhkpllfaaGreatDoor
namespace Go.Proofs.YtbejhdhhkpllfaaGreatDoor
open Go.RowKit
theorem ret_n {k : IntKind} {a c : Int} (h : a = c) : Ending.returned (.int k a) = .returned (.int k c) := by rw [h]
theorem ret_b {a c : Bool} (h : a = c) : Ending.returned (.bool a) = .returned (.bool c) := by rw [h]
theorem drop_at (s : ByteArray) (k : Nat) (h : k < s.size) : s.data.toList.drop k = s[k] :: s.data.toList.drop (k + 1) := by
  rw [List.drop_eq_getElem_cons (by rw [Array.length_toList]; exact h)]; rfl
end Go.Proofs.YtbejhdhhkpllfaaGreatDoor
namespace Go.Proofs.YtbejhdhhkpllfaaGreatDoor
open Go.RowKit
set_option maxRecDepth 100000 in
theorem ris_any (n : Nat) (hn : n ≤ 100000000) (w : World) :
    Calls Tryz.prog 139 #[.int .i64 (n : Int)] w fun e w' => e = .returned (.bool (isPt n)) ∧ w = w' := by
  have hx : isPt n = decide (n ≤ 1114111 ∧ (n < 55296 ∨ 57343 < n)) := rfl
  generalize isPt n = r at *
  have HX := Lib.hid hx
  clear hx
  go_enter Tryz.func139, Tryz.ntmps139
  go_wp2
  all_goals
    go_ret
    refine ⟨ret_b ?_, rfl⟩
    have hx := HX.out
    rw [hx, Bool.eq_iff_iff]
    (try simp at *) <;> omega
set_option maxRecDepth 100000 in
set_option maxHeartbeats 1000000 in
theorem rnumber1 (s : ByteArray) (k : Nat) (h : k + 1 ≤ s.size) (hs : s.size ≤ 1000000) (w : World) :
    Calls Tryz.prog 138 #[.string s, .int .i64 (k : Int), .int .i64 1] w fun e w' => e = .returned (.int .i64 (numN ((s.data.toList.drop k).take 1) : Nat)) ∧ w = w' := by
  rw [drop_at s (k) (by omega)]
  have h0 : k < s.size := by omega
  have c0 : s[k].toNat < 256 := UInt8.toNat_lt _
  simp only [List.take_succ_cons, List.take_zero, numN]
  go_enter Tryz.func138, Tryz.ntmps138
  go_wp2
  refine wp_loop_rounds 1 ?_
  repeat any_goals (rw [rounds_succ]; go_wp2)
  go_ret
  refine ⟨ret_n ?_, rfl⟩
  omega
set_option maxRecDepth 100000 in
set_option maxHeartbeats 1000000 in
theorem rnumber2 (s : ByteArray) (k : Nat) (h : k + 2 ≤ s.size) (hs : s.size ≤ 1000000) (w : World) :
    Calls Tryz.prog 138 #[.string s, .int .i64 (k : Int), .int .i64 2] w fun e w' => e = .returned (.int .i64 (numN ((s.data.toList.drop k).take 2) : Nat)) ∧ w = w' := by
  rw [drop_at s (k) (by omega), drop_at s (k + 1) (by omega)]
  have h0 : k < s.size := by omega
  have c0 : s[k].toNat < 256 := UInt8.toNat_lt _
  have h1 : k + 1 < s.size := by omega
  have c1 : s[k + 1].toNat < 256 := UInt8.toNat_lt _
  simp only [List.take_succ_cons, List.take_zero, numN]
  go_enter Tryz.func138, Tryz.ntmps138
  go_wp2
  refine wp_loop_rounds 2 ?_
  repeat any_goals (rw [rounds_succ]; go_wp2)
  go_ret
  refine ⟨ret_n ?_, rfl⟩
  omega
set_option maxRecDepth 100000 in
set_option maxHeartbeats 1000000 in
theorem rnumber3 (s : ByteArray) (k : Nat) (h : k + 3 ≤ s.size) (hs : s.size ≤ 1000000) (w : World) :
    Calls Tryz.prog 138 #[.string s, .int .i64 (k : Int), .int .i64 3] w fun e w' => e = .returned (.int .i64 (numN ((s.data.toList.drop k).take 3) : Nat)) ∧ w = w' := by
  rw [drop_at s (k) (by omega), drop_at s (k + 1) (by omega), drop_at s (k + 2) (by omega)]
  have h0 : k < s.size := by omega
  have c0 : s[k].toNat < 256 := UInt8.toNat_lt _
  have h1 : k + 1 < s.size := by omega
  have c1 : s[k + 1].toNat < 256 := UInt8.toNat_lt _
  have h2 : k + 2 < s.size := by omega
  have c2 : s[k + 2].toNat < 256 := UInt8.toNat_lt _
  simp only [List.take_succ_cons, List.take_zero, numN]
  go_enter Tryz.func138, Tryz.ntmps138
  go_wp2
  refine wp_loop_rounds 3 ?_
  repeat any_goals (rw [rounds_succ]; go_wp2)
  go_ret
  refine ⟨ret_n ?_, rfl⟩
  omega
set_option maxRecDepth 100000 in
set_option maxHeartbeats 1000000 in
theorem rnumber4 (s : ByteArray) (k : Nat) (h : k + 4 ≤ s.size) (hs : s.size ≤ 1000000) (w : World) :
    Calls Tryz.prog 138 #[.string s, .int .i64 (k : Int), .int .i64 4] w fun e w' => e = .returned (.int .i64 (numN ((s.data.toList.drop k).take 4) : Nat)) ∧ w = w' := by
  rw [drop_at s (k) (by omega), drop_at s (k + 1) (by omega), drop_at s (k + 2) (by omega), drop_at s (k + 3) (by omega)]
  have h0 : k < s.size := by omega
  have c0 : s[k].toNat < 256 := UInt8.toNat_lt _
  have h1 : k + 1 < s.size := by omega
  have c1 : s[k + 1].toNat < 256 := UInt8.toNat_lt _
  have h2 : k + 2 < s.size := by omega
  have c2 : s[k + 2].toNat < 256 := UInt8.toNat_lt _
  have h3 : k + 3 < s.size := by omega
  have c3 : s[k + 3].toNat < 256 := UInt8.toNat_lt _
  simp only [List.take_succ_cons, List.take_zero, numN]
  go_enter Tryz.func138, Tryz.ntmps138
  go_wp2
  refine wp_loop_rounds 4 ?_
  repeat any_goals (rw [rounds_succ]; go_wp2)
  go_ret
  refine ⟨ret_n ?_, rfl⟩
  omega
set_option maxRecDepth 100000 in
set_option maxHeartbeats 1000000 in
theorem rbytes1 (n : Nat) (hn : n ≤ 1114111) (hb : n < 128) (w : World) :
    Calls Tryz.prog 140 #[.int .i64 (n : Int)] w fun e w' => ∃ v, e = .returned v ∧ Own w.heap.size v (encN n) w' ∧ Below w.heap.size w w' := by
  have e : encN n = [UInt8.ofNat n] := by unfold encN; rw [if_pos (by omega)]
  rw [e]
  clear e
  go_enter Tryz.func140, Tryz.ntmps140
  go_wp2
  refine bodyPost_ret (v := .slice (some ⟨w.heap.size, 0, none⟩) 1 1) (by simp [results, Tryz.results140, go_sem]) rfl ⟨_, rfl, Own.fresh rfl ?_ (by simp) w, (Below.refl _ _).alloc (Nat.le_refl _) _⟩
  simp only [Lib.byteCells, List.map_cons, List.map_nil]
  rw [ofN _ (by omega)]
set_option maxRecDepth 100000 in
set_option maxHeartbeats 1000000 in
theorem rbytes2 (n : Nat) (hn : n ≤ 1114111) (ha : ¬ n < 128) (hb : n < 2048) (w : World) :
    Calls Tryz.prog 140 #[.int .i64 (n : Int)] w fun e w' => ∃ v, e = .returned v ∧ Own w.heap.size v (encN n) w' ∧ Below w.heap.size w w' := by
  have e : encN n = [UInt8.ofNat (192 + n / 64), UInt8.ofNat (128 + n % 64)] := by unfold encN; rw [if_neg (by omega)]; rw [if_pos (by omega)]
  rw [e]
  clear e
  go_enter Tryz.func140, Tryz.ntmps140
  go_wp2
  refine bodyPost_ret (v := .slice (some ⟨w.heap.size, 0, none⟩) 2 2) (by simp [results, Tryz.results140, go_sem]) rfl ⟨_, rfl, Own.fresh rfl ?_ (by simp) w, (Below.refl _ _).alloc (Nat.le_refl _) _⟩
  simp only [Lib.byteCells, List.map_cons, List.map_nil]
  rw [ofN _ (by omega), ofN _ (by omega)]; simp
set_option maxRecDepth 100000 in
set_option maxHeartbeats 1000000 in
theorem rbytes3 (n : Nat) (hn : n ≤ 1114111) (ha0 : ¬ n < 128) (ha : ¬ n < 2048) (hb : n < 65536) (w : World) :
    Calls Tryz.prog 140 #[.int .i64 (n : Int)] w fun e w' => ∃ v, e = .returned v ∧ Own w.heap.size v (encN n) w' ∧ Below w.heap.size w w' := by
  have e : encN n = [UInt8.ofNat (224 + n / 4096), UInt8.ofNat (128 + n / 64 % 64), UInt8.ofNat (128 + n % 64)] := by unfold encN; rw [if_neg (by omega)]; rw [if_neg (by omega)]; rw [if_pos (by omega)]
  rw [e]
  clear e
  obtain ⟨a, ea⟩ : ∃ a, n / 4096 = a := ⟨_, rfl⟩
  obtain ⟨d, ed⟩ : ∃ d, n / 64 = d := ⟨_, rfl⟩
  obtain ⟨b, eb⟩ : ∃ b, d % 64 = b := ⟨_, rfl⟩
  obtain ⟨c, ec⟩ : ∃ c, n % 64 = c := ⟨_, rfl⟩
  have la : a < 16 := by omega
  have ld : d < 1024 := by omega
  have lb : b < 64 := by omega
  have lc : c < 64 := by omega
  have fa : (n : Int) / 4096 = a := by omega
  have fd : (n : Int) / 64 = d := by omega
  have fb : (d : Int) % 64 = b := by omega
  have fc : (n : Int) % 64 = c := by omega
  rw [ea, ed, eb, ec]
  have i1 : (128 : Int) ≤ n := by omega
  have i2 : (2048 : Int) ≤ n := by omega
  have i3 : (n : Int) < 65536 := by omega
  clear ea ed eb ec hn ha0 ha hb
  obtain ⟨m, hm⟩ : ∃ m : Int, (n : Int) = m := ⟨_, rfl⟩
  rw [hm] at fa fd fc i1 i2 i3
  rw [hm]
  clear hm
  go_enter Tryz.func140, Tryz.ntmps140
  go_wp2
  refine bodyPost_ret (v := .slice (some ⟨w.heap.size, 0, none⟩) 3 3) (by simp [results, Tryz.results140, go_sem]) rfl ⟨_, rfl, Own.fresh rfl ?_ (by simp) w, (Below.refl _ _).alloc (Nat.le_refl _) _⟩
  simp only [Lib.byteCells, List.map_cons, List.map_nil]
  rw [ofN _ (by omega), ofN _ (by omega), ofN _ (by omega)]; simp
set_option maxRecDepth 100000 in
set_option maxHeartbeats 1000000 in
theorem rbytes4 (n : Nat) (hn : n ≤ 1114111) (ha0 : ¬ n < 128) (ha1 : ¬ n < 2048) (ha : ¬ n < 65536) (w : World) :
    Calls Tryz.prog 140 #[.int .i64 (n : Int)] w fun e w' => ∃ v, e = .returned v ∧ Own w.heap.size v (encN n) w' ∧ Below w.heap.size w w' := by
  have e : encN n = [UInt8.ofNat (240 + n / 262144), UInt8.ofNat (128 + n / 4096 % 64), UInt8.ofNat (128 + n / 64 % 64), UInt8.ofNat (128 + n % 64)] := by unfold encN; rw [if_neg (by omega)]; rw [if_neg (by omega)]; rw [if_neg (by omega)]
  rw [e]
  clear e
  obtain ⟨a, ea⟩ : ∃ a, n / 262144 = a := ⟨_, rfl⟩
  obtain ⟨x, ex⟩ : ∃ x, n / 4096 = x := ⟨_, rfl⟩
  obtain ⟨b, eb⟩ : ∃ b, x % 64 = b := ⟨_, rfl⟩
  obtain ⟨y, ey⟩ : ∃ y, n / 64 = y := ⟨_, rfl⟩
  obtain ⟨c, ec⟩ : ∃ c, y % 64 = c := ⟨_, rfl⟩
  obtain ⟨d, ed⟩ : ∃ d, n % 64 = d := ⟨_, rfl⟩
  have la : a < 5 := by omega
  have lx : x < 300 := by omega
  have ly : y < 20000 := by omega
  have lb : b < 64 := by omega
  have lc : c < 64 := by omega
  have ld : d < 64 := by omega
  have fa : (n : Int) / 262144 = a := by omega
  have fx : (n : Int) / 4096 = x := by omega
  have fb : (x : Int) % 64 = b := by omega
  have fy : (n : Int) / 64 = y := by omega
  have fc : (y : Int) % 64 = c := by omega
  have fd : (n : Int) % 64 = d := by omega
  rw [ea, ex, eb, ey, ec, ed]
  have i1 : (128 : Int) ≤ n := by omega
  have i2 : (2048 : Int) ≤ n := by omega
  have i3 : (65536 : Int) ≤ n := by omega
  clear ea ex eb ey ec ed hn ha0 ha ha1
  obtain ⟨m, hm⟩ : ∃ m : Int, (n : Int) = m := ⟨_, rfl⟩
  rw [hm] at fa fx fy fd i1 i2 i3
  rw [hm]
  clear hm
  go_enter Tryz.func140, Tryz.ntmps140
  go_wp2
  refine bodyPost_ret (v := .slice (some ⟨w.heap.size, 0, none⟩) 4 4) (by simp [results, Tryz.results140, go_sem]) rfl ⟨_, rfl, Own.fresh rfl ?_ (by simp) w, (Below.refl _ _).alloc (Nat.le_refl _) _⟩
  simp only [Lib.byteCells, List.map_cons, List.map_nil]
  rw [ofN _ (by omega), ofN _ (by omega), ofN _ (by omega), ofN _ (by omega)]; simp
theorem rbytes_any (n : Nat) (hn : isPt n = true) (w : World) :
    Calls Tryz.prog 140 #[.int .i64 (n : Int)] w fun e w' => ∃ v, e = .returned v ∧ Own w.heap.size v (encN n) w' ∧ Below w.heap.size w w' := by
  simp only [isPt, decide_eq_true_eq] at hn
  by_cases h1 : n < 128
  · exact rbytes1 n hn.1 h1 w
  by_cases h2 : n < 2048
  · exact rbytes2 n hn.1 h1 h2 w
  by_cases h3 : n < 65536
  · exact rbytes3 n hn.1 h1 h2 h3 w
  · exact rbytes4 n hn.1 h1 h2 h3 w
end Go.Proofs.YtbejhdhhkpllfaaGreatDoor
namespace Go.Proofs.YtbejhdhhkpllfaaGreatDoor
open Go.RowKit
/-- All older blocks but one stay. -/
def RK (r : Nat) (W W' : World) : Prop := Below r W W' ∧ ∀ (k : Nat) (o : Obj), W.heap[k]? = some o → k ≠ r → W'.heap[k]? = some o
theorem RK.refl (r : Nat) (W : World) : RK r W W := ⟨Below.refl _ _, fun _ _ h _ => h⟩
theorem RK.trans {r : Nat} {W W' W'' : World} (h : RK r W W') (h' : RK r W' W'') : RK r W W'' := ⟨h.1.trans h'.1, fun k o hk hne => h'.2 k o (h.2 k o hk hne) hne⟩
theorem RK.of_below {r : Nat} {W W' : World} (h : Below W.heap.size W W') (hr : r < W.heap.size) : RK r W W' := ⟨h.mono (Nat.le_of_lt hr), fun k o hk _ => (h.block k (heap_lt hk)).trans hk⟩
theorem pset {b i : Nat} {W : World} {A A' : Array Value} {T : TypeId} (h : W.heap[b]? = some (.cells A T (0, 0))) (v : Value) (hA : A.setIfInBounds i v = A') : (W.setCell ⟨b, i, none⟩ v).heap[b]? = some (.cells A' T (0, 0)) := by
  subst hA
  have hlt : b < W.heap.size := (Array.getElem?_eq_some_iff.1 h).1
  simp only [World.setCell, Array.getElem?_modify]
  simp [h]
theorem RK.set (r i : Nat) (W : World) (v : Value) : RK r W (W.setCell ⟨r, i, none⟩ v) := by
  refine ⟨(Below.refl r W).setCell (p := ⟨r, i, none⟩) (Nat.le_refl _) v, fun k o hk hne => ?_⟩
  rw [Below.heap_setCell _ _ _ _ hne]; exact hk
end Go.Proofs.YtbejhdhhkpllfaaGreatDoor
namespace Go.Proofs.YtbejhdhhkpllfaaGreatDoor
open Go.RowKit
/-- Tokens that stand in a row from a place of a block on. -/
def TokRow (b off : Nat) (L : List Tok) (W : World) : Prop := ∀ (k : Nat) (h : k < L.length), W.cell? ⟨b, off + k * 3, none⟩ = some (.int .u8 (L[k].kind.toNat : Int)) ∧ W.cell? ⟨b, off + k * 3 + 1, none⟩ = some (.string ⟨L[k].text.toArray⟩) ∧ W.cell? ⟨b, off + k * 3 + 2, none⟩ = some (.int .i64 L[k].pos)
theorem TokRow.below {b off : Nat} {L : List Tok} {w w' : World} (h : TokRow b off L w) (hb : Below w.heap.size w w') (hlt : b < w.heap.size) : TokRow b off L w' := by
  intro k hk
  obtain ⟨h1, h2, h3⟩ := h k hk
  exact ⟨(hb.cell (p := ⟨b, _, none⟩) hlt).trans h1, (hb.cell (p := ⟨b, _, none⟩) hlt).trans h2, (hb.cell (p := ⟨b, _, none⟩) hlt).trans h3⟩
theorem TokRow.below' {b off : Nat} {L : List Tok} {w w' : World} (h : TokRow b off L w) (hb : Below w.heap.size w w') : TokRow b off L w' := by
  intro k hk
  exact h.below hb (lt_of_cell (h k hk).1) k hk
/-- A slice that reads as tokens. -/
def TokSl (v : Value) (L : List Tok) (W : World) : Prop := (∃ a cap, v = .slice a 0 cap ∧ L = [] ∧ (a = none → cap = 0)) ∨ ∃ b off cap, v = .slice (some ⟨b, off, none⟩) L.length cap ∧ TokRow b off L W
theorem TokSl.below {v : Value} {L : List Tok} {w w' : World} (h : TokSl v L w) (hb : Below w.heap.size w w') : TokSl v L w' := by
  rcases h with h | ⟨b, off, cap, h1, h2⟩
  · exact Or.inl h
  · exact Or.inr ⟨b, off, cap, h1, h2.below' hb⟩
theorem TokSl.nil (w : World) : TokSl (.slice none 0 0) [] w := Or.inl ⟨_, _, rfl, rfl, fun _ => rfl⟩
end Go.Proofs.YtbejhdhhkpllfaaGreatDoor
namespace Go.Proofs.YtbejhdhhkpllfaaGreatDoor
open Go.RowKit Go.Lib
section
variable {p tb off cap : Nat} {T : List Tok} {fx : Bool} {k : Nat} {op : Int} {v : Value} {W W' : World}
theorem TokRow.rk {L : List Tok} (h : TokRow tb off L W) (hk : RK p W W') (hne : tb ≠ p) : TokRow tb off L W' := by
  intro i hi
  obtain ⟨h1, h2, h3⟩ := h i hi
  have hb : W'.heap[tb]? = W.heap[tb]? := by
    have hlt := lt_of_cell h1
    obtain ⟨o, ho⟩ : ∃ o, W.heap[tb]? = some o := ⟨_, Array.getElem?_eq_getElem hlt⟩
    rw [ho]; exact hk.2 tb o ho hne
  refine ⟨?_, ?_, ?_⟩
  · rw [← h1]; unfold World.cell?; rw [hb]
  · rw [← h2]; unfold World.cell?; rw [hb]
  · rw [← h3]; unfold World.cell?; rw [hb]
end
end Go.Proofs.YtbejhdhhkpllfaaGreatDoor
namespace Go.Proofs.YtbejhdhhkpllfaaGreatDoor
open Go.RowKit Go.Lib
/-- An operation that is not wanted is taken first. -/
theorem tkn {P : Program} {ops : Array Oper} {Q : Exit → Act → World → Prop} {md : Region.Mode} {S : World → Prop} (i : Nat) (d : Option Tmp) {oi : Oper} {fuel : Nat} {listed : Array Bool} {a : Act} {w : World} (hi' : ops.toList[i]? = some oi)
    (hk : (Region.noSelect ops && Region.free md ops listed i && (Region.ready md ops listed).contains i) = true) (hw : Region.wanted oi (yielded ops a.tmps) = false)
    (hd : oi.dst = d) (hQ : ∀ c a w, Q (.panic c) (a.put d undef) w → Q (.panic c) a w) (hS : S w)
    (h : wpAnyH P md ops Q S fuel (listed.setIfInBounds i true) (a.put d undef) w) : wpAnyH P md ops Q S (fuel + 1) listed a w := by
  have hi : ops[i]? = some oi := by rw [← Array.getElem?_toList]; exact hi'
  subst hd
  simp only [Bool.and_eq_true] at hk
  exact wpAnyH_take hi hk.1.1 hk.1.2 hk.2 hQ (Or.inr ⟨hw, rfl⟩) hS h
/-- An operation that yields in every world that meets S is taken first. -/
theorem tky {P : Program} {ops : Array Oper} {Q : Exit → Act → World → Prop} {md : Region.Mode} {S : World → Prop} (i : Nat) (d : Option Tmp) {v : Value} {oi : Oper} {fuel : Nat} {listed : Array Bool} {a : Act} {w : World} (hi' : ops.toList[i]? = some oi)
    (hk : (Region.noSelect ops && Region.free md ops listed i && (Region.ready md ops listed).contains i) = true) (hw : Region.wanted oi (yielded ops a.tmps) = true)
    (hd : oi.dst = d) (hQ : ∀ c a w, Q (.panic c) (a.put d v) w → Q (.panic c) a w) (hy : ∀ w, S w → (execOp a.eval oi).run P w = .ok (.value v) w) (hS : S w)
    (h : wpAnyH P md ops Q S fuel (listed.setIfInBounds i true) (a.put d v) w) : wpAnyH P md ops Q S (fuel + 1) listed a w := by
  have hi : ops[i]? = some oi := by rw [← Array.getElem?_toList]; exact hi'
  subst hd
  simp only [Bool.and_eq_true] at hk
  exact wpAnyH_take hi hk.1.1 hk.1.2 hk.2 hQ (Or.inl ⟨hw, hy⟩) hS h
/-- What is carried out comes up alone. -/
theorem rcons {P : Program} {ops : Array Oper} {Q : Exit → Act → World → Prop} {md : Region.Mode} {S : World → Prop} (i : Nat) {fuel : Nat} {listed : Array Bool} {a : Act} {w : World} {o : Oper} (ho : ops.toList[i]? = some o) (hr : Region.ready md ops listed = [i])
    (h : ∀ K' : Act → World → Prop, Shut (∀ a w, S w → (S w → wpAnyH P md ops Q S fuel (listed.setIfInBounds i true) a w) → K' a w) → if Region.wanted o (yielded ops a.tmps) = true then Oper.wp P o a w K' Q else K' (a.put o.dst undef) w) : wpAnyH P md ops Q S (fuel + 1) listed a w :=
  wpAnyH_ready (rs := [i]) hr (by simp) (AllReadyH.cons (by rw [← Array.getElem?_toList]; exact ho) h AllReadyH.nil)
theorem ext_list (s : ByteArray) (a m : Nat) : (s.extract a (a + m)).toList = (s.data.toList.drop a).take m := by
  rw [ByteArray.toList_eq, ByteArray.data_extract, Array.toList_extract, List.extract_eq_take_drop]
  rw [show a + m - a = m by omega]
set_option maxRecDepth 100000 in
set_option maxHeartbeats 2000000 in
theorem rone_no (s : ByteArray) (k m n : Nat) (H1 : Hid (∀ w, Calls Tryz.prog 138 #[.string s, .int .i64 (k : Int), .int .i64 (m : Int)] w fun e w' => e = .returned (.int .i64 (n : Int)) ∧ w = w')) (H2 : Hid (∀ w, Calls Tryz.prog 139 #[.int .i64 (n : Int)] w fun e w' => e = .returned (.bool false) ∧ w = w')) (hk : k + m ≤ s.size) (hs : s.size ≤ 1000000) (w : World) :
    Calls Tryz.prog 134 #[.string s, .int .i64 (k : Int), .int .i64 (m : Int)] w fun e w' => e = .returned (.tuple #[.int .i64 (n : Int), .bool false]) ∧ Below w.heap.size w w' := by
  go_enter Tryz.func134, Tryz.ntmps134
  go_wp2_with fail
  refine (H1.out _).mono ?_; rintro e w1 ⟨rfl, rfl⟩
  go_wp2_with fail
  refine wp_region_held_drew (S := fun _ => True) (by kernel_rfl) (trivial) (fun hHeld => ?_)
  refine tky 0 (some 23) (v := ?_) rfl (by kernel_rfl) (by kernel_rfl) (by kernel_rfl) (fun _ _ _ h => h) ?_ hHeld ?_
  rotate_left
  focus (intro w hSw; (try dsimp only at hSw); go_simp; (try with_reducible rfl); done)
  go_frame
  refine tky 1 (some 24) (v := ?_) rfl (by kernel_rfl) (by kernel_rfl) (by kernel_rfl) (fun _ _ _ h => h) ?_ hHeld ?_
  rotate_left
  focus (intro w hSw; (try dsimp only at hSw); go_simp; (try with_reducible rfl); done)
  go_frame
  refine rcons 2 rfl (by kernel_rfl) (fun K hK => ?_)
  go_simp
  (refine (H2.out _).mono ?_; rintro e w1 ⟨rfl, rfl⟩)
  (try dsimp only)
  refine hK.out _ _ (trivial) (fun hHeld2 => ?_)
  clear hK K hHeld
  have hHeld := hHeld2
  clear hHeld2
  (try go_frame)
  refine tky 3 (some 26) (v := ?_) rfl (by kernel_rfl) (by kernel_rfl) (by kernel_rfl) (fun _ _ _ h => h) ?_ hHeld ?_
  rotate_left
  focus (intro w hSw; (try dsimp only at hSw); go_simp; (try with_reducible rfl); done)
  go_frame
  refine tkn 4 (some 27) rfl (by kernel_rfl) (by kernel_rfl) (by kernel_rfl) (fun _ _ _ h => h) hHeld ?_
  go_frame
  refine tkn 5 (some 28) rfl (by kernel_rfl) (by kernel_rfl) (by kernel_rfl) (fun _ _ _ h => h) hHeld ?_
  go_frame
  refine tkn 6 (some 29) rfl (by kernel_rfl) (by kernel_rfl) (by kernel_rfl) (fun _ _ _ h => h) hHeld ?_
  go_frame
  refine tkn 7 (some 30) rfl (by kernel_rfl) (by kernel_rfl) (by kernel_rfl) (fun _ _ _ h => h) hHeld ?_
  go_frame
  refine tkn 8 (some 31) rfl (by kernel_rfl) (by kernel_rfl) (by kernel_rfl) (fun _ _ _ h => h) hHeld ?_
  go_frame
  refine tkn 9 (some 32) rfl (by kernel_rfl) (by kernel_rfl) (by kernel_rfl) (fun _ _ _ h => h) hHeld ?_
  go_frame
  refine tkn 10 (some 33) rfl (by kernel_rfl) (by kernel_rfl) (by kernel_rfl) (fun _ _ _ h => h) hHeld ?_
  go_frame
  refine tkn 11 (some 34) rfl (by kernel_rfl) (by kernel_rfl) (by kernel_rfl) (fun _ _ _ h => h) hHeld ?_
  go_frame
  refine tkn 12 (some 35) rfl (by kernel_rfl) (by kernel_rfl) (by kernel_rfl) (fun _ _ _ h => h) hHeld ?_
  go_frame
  refine tkn 13 (some 36) rfl (by kernel_rfl) (by kernel_rfl) (by kernel_rfl) (fun _ _ _ h => h) hHeld ?_
  go_frame
  refine tky 14 (some 37) (v := ?_) rfl (by kernel_rfl) (by kernel_rfl) (by kernel_rfl) (fun _ _ _ h => h) ?_ hHeld ?_
  rotate_left
  focus (intro w hSw; (try dsimp only at hSw); go_simp; (try with_reducible rfl); done)
  go_frame
  refine tky 15 (some 6) (v := ?_) rfl (by kernel_rfl) (by kernel_rfl) (by kernel_rfl) (fun _ _ _ h => h) ?_ hHeld ?_
  rotate_left
  focus (intro w hSw; (try dsimp only at hSw); go_simp; (try with_reducible rfl); done)
  go_frame
  refine tky 16 (some 7) (v := ?_) rfl (by kernel_rfl) (by kernel_rfl) (by kernel_rfl) (fun _ _ _ h => h) ?_ hHeld ?_
  rotate_left
  focus (intro w hSw; (try dsimp only at hSw); go_simp; (try with_reducible rfl); done)
  go_frame
  refine wpAnyH_done (by kernel_rfl) ?_ _
  go_wp2_with fail
  go_ret2
  exact ⟨rfl, (Below.refl _ _).drew⟩
set_option maxRecDepth 100000 in
set_option maxHeartbeats 2000000 in
theorem rone_yes (s : ByteArray) (k m n : Nat) (H1 : Hid (∀ w, Calls Tryz.prog 138 #[.string s, .int .i64 (k : Int), .int .i64 (m : Int)] w fun e w' => e = .returned (.int .i64 (n : Int)) ∧ w = w')) (H2 : Hid (∀ w, Calls Tryz.prog 139 #[.int .i64 (n : Int)] w fun e w' => e = .returned (.bool true) ∧ w = w'))
    (H3 : Hid (∀ w, Calls Tryz.prog 140 #[.int .i64 (n : Int)] w fun e w' => ∃ v, e = .returned v ∧ Own w.heap.size v (encN n) w' ∧ Below w.heap.size w w')) (hk : k + m ≤ s.size) (hs : s.size ≤ 1000000) (r : Bool) (hr : ((encN n) == (s.data.toList.drop k).take m) = r) (w : World) :
    Calls Tryz.prog 134 #[.string s, .int .i64 (k : Int), .int .i64 (m : Int)] w fun e w' => e = .returned (.tuple #[.int .i64 (n : Int), .bool r]) ∧ Below w.heap.size w w' := by
  have v1 : IntKind.i64.wrap ((k : Int) + m) = (k : Int) + m := IntWalk.i64_in _ (by omega)
  have t1 : ((k : Int) + m).toNat = k + m := by omega
  have b1 : (0 : Int) ≤ k := by omega
  have b2 : (k : Int) ≤ (k : Int) + m := by omega
  have b3 : (k : Int) + m ≤ s.size := by omega
  have HR := Lib.hid hr
  clear hr
  go_enter Tryz.func134, Tryz.ntmps134
  go_wp2_with fail
  refine (H1.out _).mono ?_; rintro e w1 ⟨rfl, rfl⟩
  go_wp2_with fail
  refine wp_region_held_drew (S := fun _ => True) (by kernel_rfl) (trivial) (fun hHeld => ?_)
  refine tky 0 (some 23) (v := ?_) rfl (by kernel_rfl) (by kernel_rfl) (by kernel_rfl) (fun _ _ _ h => h) ?_ hHeld ?_
  rotate_left
  focus (intro w hSw; (try dsimp only at hSw); go_simp; (try with_reducible rfl); done)
  go_frame
  refine tky 1 (some 24) (v := ?_) rfl (by kernel_rfl) (by kernel_rfl) (by kernel_rfl) (fun _ _ _ h => h) ?_ hHeld ?_
  rotate_left
  focus (intro w hSw; (try dsimp only at hSw); go_simp; (try with_reducible rfl); done)
  go_frame
  refine rcons 2 rfl (by kernel_rfl) (fun K hK => ?_)
  go_simp
  (refine (H2.out _).mono ?_; rintro e w1 ⟨rfl, rfl⟩)
  (try dsimp only)
  refine hK.out _ _ (trivial) (fun hHeld2 => ?_)
  clear hK K hHeld
  have hHeld := hHeld2
  clear hHeld2
  (try go_frame)
  refine tky 3 (some 26) (v := ?_) rfl (by kernel_rfl) (by kernel_rfl) (by kernel_rfl) (fun _ _ _ h => h) ?_ hHeld ?_
  rotate_left
  focus (intro w hSw; (try dsimp only at hSw); go_simp; (try with_reducible rfl); done)
  go_frame
  refine tky 4 (some 27) (v := ?_) rfl (by kernel_rfl) (by kernel_rfl) (by kernel_rfl) (fun _ _ _ h => h) ?_ hHeld ?_
  rotate_left
  focus (intro w hSw; (try dsimp only at hSw); go_simp; (try with_reducible rfl); done)
  go_frame
  refine tky 7 (some 30) (v := ?_) rfl (by kernel_rfl) (by kernel_rfl) (by kernel_rfl) (fun _ _ _ h => h) ?_ hHeld ?_
  rotate_left
  focus (intro w hSw; (try dsimp only at hSw); go_simp; (try with_reducible rfl); done)
  go_frame
  refine tky 8 (some 31) (v := ?_) rfl (by kernel_rfl) (by kernel_rfl) (by kernel_rfl) (fun _ _ _ h => h) ?_ hHeld ?_
  rotate_left
  focus (intro w hSw; (try dsimp only at hSw); go_simp; (try with_reducible rfl); done)
  go_frame
  refine tky 9 (some 32) (v := ?_) rfl (by kernel_rfl) (by kernel_rfl) (by kernel_rfl) (fun _ _ _ h => h) ?_ hHeld ?_
  rotate_left
  focus (intro w hSw; (try dsimp only at hSw); go_simp; (try with_reducible rfl); done)
  go_frame
  refine tky 10 (some 33) (v := ?_) rfl (by kernel_rfl) (by kernel_rfl) (by kernel_rfl) (fun _ _ _ h => h) ?_ hHeld ?_
  rotate_left
  focus (intro w hSw; (try dsimp only at hSw); go_simp; (try with_reducible rfl); done)
  go_frame
  refine tky 11 (some 34) (v := ?_) rfl (by kernel_rfl) (by kernel_rfl) (by kernel_rfl) (fun _ _ _ h => h) ?_ hHeld ?_
  rotate_left
  focus (intro w hSw; (try dsimp only at hSw); go_simp; (try with_reducible rfl); done)
  go_frame
  refine tky 12 (some 35) (v := ?_) rfl (by kernel_rfl) (by kernel_rfl) (by kernel_rfl) (fun _ _ _ h => h) ?_ hHeld ?_
  rotate_left
  focus (intro w hSw; (try dsimp only at hSw); go_simp; (try with_reducible rfl); done)
  go_frame
  refine rcons 5 rfl (by kernel_rfl) (fun K hK => ?_)
  go_simp
  (refine (H3.out _).mono ?_; rintro e w2 ⟨bv, rfl, hown, hb⟩; have HC := run_convert_own hown)
  (try dsimp only)
  refine hK.out _ _ (trivial) (fun hHeld2 => ?_)
  clear hK K hHeld
  have hHeld := hHeld2
  clear hHeld2
  (try go_frame)
  refine tky 15 (some 6) (v := ?_) rfl (by kernel_rfl) (by kernel_rfl) (by kernel_rfl) (fun _ _ _ h => h) ?_ hHeld ?_
  rotate_left
  focus (intro w hSw; (try dsimp only at hSw); go_simp; (try with_reducible rfl); done)
  go_frame
  refine rcons 6 rfl (by kernel_rfl) (fun K hK => ?_)
  go_simp
  refine hK.out _ _ (trivial) (fun hHeld2 => ?_)
  clear hK K hHeld
  have hHeld := hHeld2
  clear hHeld2
  (try go_frame)
  refine tky 13 (some 36) (v := ?_) rfl (by kernel_rfl) (by kernel_rfl) (by kernel_rfl) (fun _ _ _ h => h) ?_ hHeld ?_
  rotate_left
  focus (intro w hSw; (try dsimp only at hSw); go_simp; (try with_reducible rfl); done)
  go_frame
  refine tky 14 (some 37) (v := ?_) rfl (by kernel_rfl) (by kernel_rfl) (by kernel_rfl) (fun _ _ _ h => h) ?_ hHeld ?_
  rotate_left
  focus (intro w hSw; (try dsimp only at hSw); go_simp; (try with_reducible rfl); done)
  go_frame
  refine tky 16 (some 7) (v := ?_) rfl (by kernel_rfl) (by kernel_rfl) (by kernel_rfl) (fun _ _ _ h => h) ?_ hHeld ?_
  rotate_left
  focus (intro w hSw; (try dsimp only at hSw); go_simp; (try with_reducible rfl); done)
  go_frame
  refine wpAnyH_done (by kernel_rfl) ?_ _
  have hbw : Below w.heap.size w w2 := Below.trans (Below.refl _ _).drew hb
  clear hb HC hown hHeld
  go_wp2_with fail
  go_ret2
  exact ⟨congrArg (fun b : Bool => Ending.returned (Value.tuple #[.int .i64 (n : Int), .bool b])) (by rw [ext_list]; exact HR.out), hbw⟩
/-- What One answers at a place. -/
def oneV (l : List UInt8) (m : Nat) : Value := if m ≤ l.length then .tuple #[.int .i64 (numN (l.take m) : Nat), .bool (oneB l m)] else .tuple #[.int .i64 0, .bool false]
theorem num_le (l : List UInt8) : numN l ≤ 100000000 := by
  match l with
  | [] => exact Nat.zero_le _
  | [a] => simp only [numN]; have := a.toNat_lt; omega
  | [a, b] => simp only [numN]; omega
  | [a, b, c] => simp only [numN]; omega
  | [a, b, c, d] => simp only [numN]; omega
  | _ :: _ :: _ :: _ :: _ :: _ => exact Nat.zero_le _
set_option maxRecDepth 100000 in
theorem rone_far (s : ByteArray) (k m : Nat) (hk : s.size < k + m) (hk2 : k ≤ 1000000) (hm : m ≤ 4) (hs : s.size ≤ 1000000) (w : World) :
    Calls Tryz.prog 134 #[.string s, .int .i64 (k : Int), .int .i64 (m : Int)] w fun e w' => e = .returned (.tuple #[.int .i64 0, .bool false]) ∧ Below w.heap.size w w' := by
  go_enter Tryz.func134, Tryz.ntmps134
  go_wp2_with fail
  go_ret2
  exact ⟨rfl, Below.refl _ _⟩
theorem rone_any (s : ByteArray) (k m : Nat) (hk : k ≤ s.size) (h1 : 1 ≤ m) (hm : m ≤ 4) (hs : s.size ≤ 1000000) (w : World) :
    Calls Tryz.prog 134 #[.string s, .int .i64 (k : Int), .int .i64 (m : Int)] w fun e w' => e = .returned (oneV (s.data.toList.drop k) m) ∧ Below w.heap.size w w' := by
  have hl : (s.data.toList.drop k).length = s.size - k := by rw [List.length_drop, Array.length_toList]; rfl
  unfold oneV
  by_cases hc : k + m ≤ s.size
  · rw [if_pos (by omega)]
    have H1 : ∀ w, Calls Tryz.prog 138 #[.string s, .int .i64 (k : Int), .int .i64 (m : Int)] w fun e w' => e = .returned (.int .i64 (numN ((s.data.toList.drop k).take m) : Nat)) ∧ w = w' := by
      intro w
      rcases (show m = 1 ∨ m = 2 ∨ m = 3 ∨ m = 4 by omega) with rfl | rfl | rfl | rfl
      · exact rnumber1 s k hc hs w
      · exact rnumber2 s k hc hs w
      · exact rnumber3 s k hc hs w
      · exact rnumber4 s k hc hs w
    have hn := num_le ((s.data.toList.drop k).take m)
    unfold oneB
    rw [decide_eq_true (by omega), Bool.true_and]
    generalize hN : numN ((s.data.toList.drop k).take m) = n at *
    have H2 := fun w => ris_any n hn w
    cases hp : isPt n with
    | false =>
      rw [hp] at H2
      exact rone_no s k m n (Lib.hid H1) (Lib.hid H2) hc hs w
    | true =>
      rw [hp] at H2
      exact rone_yes s k m n (Lib.hid H1) (Lib.hid H2) (Lib.hid fun w => rbytes_any n hp w) hc hs _ rfl w
  · rw [if_neg (by omega)]
    exact rone_far s k m (by omega) (by omega) hm hs w
set_option maxRecDepth 100000 in
set_option maxHeartbeats 2000000 in
theorem rnext_1 (s : ByteArray) (k : Nat) (n1 : Int) (H1 : Hid (∀ w, Calls Tryz.prog 134 #[.string s, .int .i64 (k : Int), .int .i64 1] w fun e w' => e = .returned (.tuple #[.int .i64 n1, .bool true]) ∧ Below w.heap.size w w')) (hk : k < s.size) (hs : s.size ≤ 1000000) (w : World) :
    Calls Tryz.prog 123 #[.string s, .int .i64 (k : Int)] w fun e w' => e = .returned (.tuple #[.int .i64 n1, .int .i64 1, .int .i64 0]) ∧ Below w.heap.size w w' := by
  have HW0 := Lib.hid (Below.refl w.heap.size w)
  go_enter Tryz.func123, Tryz.ntmps123
  go_wp2_with fail
  refine wp_loop_rounds 5 ?_
  rw [rounds_succ]
  go_wp2_with fail
  refine (H1.out _).mono ?_; rintro e w1 ⟨rfl, hb⟩
  have HW1 := Lib.hid (HW0.out.trans (hb.mono HW0.out.size))
  clear hb
  go_wp2_with fail
  go_ret3
  exact ⟨rfl, HW1.out⟩
set_option maxRecDepth 100000 in
set_option maxHeartbeats 2000000 in
theorem rnext_2 (s : ByteArray) (k : Nat) (n1 n2 : Int) (H1 : Hid (∀ w, Calls Tryz.prog 134 #[.string s, .int .i64 (k : Int), .int .i64 1] w fun e w' => e = .returned (.tuple #[.int .i64 n1, .bool false]) ∧ Below w.heap.size w w')) (H2 : Hid (∀ w, Calls Tryz.prog 134 #[.string s, .int .i64 (k : Int), .int .i64 2] w fun e w' => e = .returned (.tuple #[.int .i64 n2, .bool true]) ∧ Below w.heap.size w w')) (hk : k < s.size) (hs : s.size ≤ 1000000) (w : World) :
    Calls Tryz.prog 123 #[.string s, .int .i64 (k : Int)] w fun e w' => e = .returned (.tuple #[.int .i64 n2, .int .i64 2, .int .i64 0]) ∧ Below w.heap.size w w' := by
  have HW0 := Lib.hid (Below.refl w.heap.size w)
  go_enter Tryz.func123, Tryz.ntmps123
  go_wp2_with fail
  refine wp_loop_rounds 5 ?_
  rw [rounds_succ]
  go_wp2_with fail
  refine (H1.out _).mono ?_; rintro e w1 ⟨rfl, hb⟩
  have HW1 := Lib.hid (HW0.out.trans (hb.mono HW0.out.size))
  clear hb
  go_wp2_with fail
  rw [rounds_succ]
  go_wp2_with fail
  refine (H2.out _).mono ?_; rintro e w2 ⟨rfl, hb⟩
  have HW2 := Lib.hid (HW1.out.trans (hb.mono HW1.out.size))
  clear hb
  go_wp2_with fail
  go_ret3
  exact ⟨rfl, HW2.out⟩
set_option maxRecDepth 100000 in
set_option maxHeartbeats 2000000 in
theorem rnext_3 (s : ByteArray) (k : Nat) (n1 n2 n3 : Int) (H1 : Hid (∀ w, Calls Tryz.prog 134 #[.string s, .int .i64 (k : Int), .int .i64 1] w fun e w' => e = .returned (.tuple #[.int .i64 n1, .bool false]) ∧ Below w.heap.size w w')) (H2 : Hid (∀ w, Calls Tryz.prog 134 #[.string s, .int .i64 (k : Int), .int .i64 2] w fun e w' => e = .returned (.tuple #[.int .i64 n2, .bool false]) ∧ Below w.heap.size w w')) (H3 : Hid (∀ w, Calls Tryz.prog 134 #[.string s, .int .i64 (k : Int), .int .i64 3] w fun e w' => e = .returned (.tuple #[.int .i64 n3, .bool true]) ∧ Below w.heap.size w w')) (hk : k < s.size) (hs : s.size ≤ 1000000) (w : World) :
    Calls Tryz.prog 123 #[.string s, .int .i64 (k : Int)] w fun e w' => e = .returned (.tuple #[.int .i64 n3, .int .i64 3, .int .i64 0]) ∧ Below w.heap.size w w' := by
  have HW0 := Lib.hid (Below.refl w.heap.size w)
  go_enter Tryz.func123, Tryz.ntmps123
  go_wp2_with fail
  refine wp_loop_rounds 5 ?_
  rw [rounds_succ]
  go_wp2_with fail
  refine (H1.out _).mono ?_; rintro e w1 ⟨rfl, hb⟩
  have HW1 := Lib.hid (HW0.out.trans (hb.mono HW0.out.size))
  clear hb
  go_wp2_with fail
  rw [rounds_succ]
  go_wp2_with fail
  refine (H2.out _).mono ?_; rintro e w2 ⟨rfl, hb⟩
  have HW2 := Lib.hid (HW1.out.trans (hb.mono HW1.out.size))
  clear hb
  go_wp2_with fail
  rw [rounds_succ]
  go_wp2_with fail
  refine (H3.out _).mono ?_; rintro e w3 ⟨rfl, hb⟩
  have HW3 := Lib.hid (HW2.out.trans (hb.mono HW2.out.size))
  clear hb
  go_wp2_with fail
  go_ret3
  exact ⟨rfl, HW3.out⟩
set_option maxRecDepth 100000 in
set_option maxHeartbeats 2000000 in
theorem rnext_4 (s : ByteArray) (k : Nat) (n1 n2 n3 n4 : Int) (H1 : Hid (∀ w, Calls Tryz.prog 134 #[.string s, .int .i64 (k : Int), .int .i64 1] w fun e w' => e = .returned (.tuple #[.int .i64 n1, .bool false]) ∧ Below w.heap.size w w')) (H2 : Hid (∀ w, Calls Tryz.prog 134 #[.string s, .int .i64 (k : Int), .int .i64 2] w fun e w' => e = .returned (.tuple #[.int .i64 n2, .bool false]) ∧ Below w.heap.size w w')) (H3 : Hid (∀ w, Calls Tryz.prog 134 #[.string s, .int .i64 (k : Int), .int .i64 3] w fun e w' => e = .returned (.tuple #[.int .i64 n3, .bool false]) ∧ Below w.heap.size w w')) (H4 : Hid (∀ w, Calls Tryz.prog 134 #[.string s, .int .i64 (k : Int), .int .i64 4] w fun e w' => e = .returned (.tuple #[.int .i64 n4, .bool true]) ∧ Below w.heap.size w w')) (hk : k < s.size) (hs : s.size ≤ 1000000) (w : World) :
    Calls Tryz.prog 123 #[.string s, .int .i64 (k : Int)] w fun e w' => e = .returned (.tuple #[.int .i64 n4, .int .i64 4, .int .i64 0]) ∧ Below w.heap.size w w' := by
  have HW0 := Lib.hid (Below.refl w.heap.size w)
  go_enter Tryz.func123, Tryz.ntmps123
  go_wp2_with fail
  refine wp_loop_rounds 5 ?_
  rw [rounds_succ]
  go_wp2_with fail
  refine (H1.out _).mono ?_; rintro e w1 ⟨rfl, hb⟩
  have HW1 := Lib.hid (HW0.out.trans (hb.mono HW0.out.size))
  clear hb
  go_wp2_with fail
  rw [rounds_succ]
  go_wp2_with fail
  refine (H2.out _).mono ?_; rintro e w2 ⟨rfl, hb⟩
  have HW2 := Lib.hid (HW1.out.trans (hb.mono HW1.out.size))
  clear hb
  go_wp2_with fail
  rw [rounds_succ]
  go_wp2_with fail
  refine (H3.out _).mono ?_; rintro e w3 ⟨rfl, hb⟩
  have HW3 := Lib.hid (HW2.out.trans (hb.mono HW2.out.size))
  clear hb
  go_wp2_with fail
  rw [rounds_succ]
  go_wp2_with fail
  refine (H4.out _).mono ?_; rintro e w4 ⟨rfl, hb⟩
  have HW4 := Lib.hid (HW3.out.trans (hb.mono HW3.out.size))
  clear hb
  go_wp2_with fail
  go_ret3
  exact ⟨rfl, HW4.out⟩
set_option maxRecDepth 100000 in
set_option maxHeartbeats 2000000 in
theorem rnext_0 (s : ByteArray) (k : Nat) (n1 n2 n3 n4 : Int) (H1 : Hid (∀ w, Calls Tryz.prog 134 #[.string s, .int .i64 (k : Int), .int .i64 1] w fun e w' => e = .returned (.tuple #[.int .i64 n1, .bool false]) ∧ Below w.heap.size w w')) (H2 : Hid (∀ w, Calls Tryz.prog 134 #[.string s, .int .i64 (k : Int), .int .i64 2] w fun e w' => e = .returned (.tuple #[.int .i64 n2, .bool false]) ∧ Below w.heap.size w w')) (H3 : Hid (∀ w, Calls Tryz.prog 134 #[.string s, .int .i64 (k : Int), .int .i64 3] w fun e w' => e = .returned (.tuple #[.int .i64 n3, .bool false]) ∧ Below w.heap.size w w')) (H4 : Hid (∀ w, Calls Tryz.prog 134 #[.string s, .int .i64 (k : Int), .int .i64 4] w fun e w' => e = .returned (.tuple #[.int .i64 n4, .bool false]) ∧ Below w.heap.size w w')) (hk : k < s.size) (hs : s.size ≤ 1000000) (w : World) :
    Calls Tryz.prog 123 #[.string s, .int .i64 (k : Int)] w fun e w' => e = .returned (.tuple #[.int .i64 0, .int .i64 0, .int .i64 10]) ∧ Below w.heap.size w w' := by
  have HW0 := Lib.hid (Below.refl w.heap.size w)
  go_enter Tryz.func123, Tryz.ntmps123
  go_wp2_with fail
  refine wp_loop_rounds 5 ?_
  rw [rounds_succ]
  go_wp2_with fail
  refine (H1.out _).mono ?_; rintro e w1 ⟨rfl, hb⟩
  have HW1 := Lib.hid (HW0.out.trans (hb.mono HW0.out.size))
  clear hb
  go_wp2_with fail
  rw [rounds_succ]
  go_wp2_with fail
  refine (H2.out _).mono ?_; rintro e w2 ⟨rfl, hb⟩
  have HW2 := Lib.hid (HW1.out.trans (hb.mono HW1.out.size))
  clear hb
  go_wp2_with fail
  rw [rounds_succ]
  go_wp2_with fail
  refine (H3.out _).mono ?_; rintro e w3 ⟨rfl, hb⟩
  have HW3 := Lib.hid (HW2.out.trans (hb.mono HW2.out.size))
  clear hb
  go_wp2_with fail
  rw [rounds_succ]
  go_wp2_with fail
  refine (H4.out _).mono ?_; rintro e w4 ⟨rfl, hb⟩
  have HW4 := Lib.hid (HW3.out.trans (hb.mono HW3.out.size))
  clear hb
  go_wp2_with fail
  rw [rounds_succ]
  go_wp2_with fail
  go_ret3
  exact ⟨rfl, HW4.out⟩
/-- What Next answers at a place. -/
def nextV (l : List UInt8) : Value := if wellB l then .tuple #[.int .i64 ((decodeL l).1 : Nat), .int .i64 ((decodeL l).2 : Nat), .int .i64 0] else .tuple #[.int .i64 0, .int .i64 0, .int .i64 10]
theorem rnext_any (s : ByteArray) (k : Nat) (hk : k < s.size) (hs : s.size ≤ 1000000) (w : World) :
    Calls Tryz.prog 123 #[.string s, .int .i64 (k : Int)] w fun e w' => e = .returned (nextV (s.data.toList.drop k)) ∧ Below w.heap.size w w' := by
  have hl : (s.data.toList.drop k).length = s.size - k := by rw [List.length_drop, Array.length_toList]; rfl
  have hne : s.data.toList.drop k ≠ [] := by intro e; rw [e] at hl; simp at hl; omega
  have O := fun (m : Nat) (h1 : 1 ≤ m) (h4 : m ≤ 4) (w : World) => rone_any s k m (by omega) h1 h4 hs w
  have hb := one_iff (s.data.toList.drop k) hne
  generalize s.data.toList.drop k = l at *
  have key : ∀ m, oneV l m = .tuple #[.int .i64 (if m ≤ l.length then ((numN (l.take m) : Nat) : Int) else 0), .bool (oneB l m)] := by
    intro m
    unfold oneV
    by_cases h : m ≤ l.length
    · rw [if_pos h, if_pos h]
    · rw [if_neg h, if_neg h]
      unfold oneB
      rw [decide_eq_false h]; rfl
  have O1 := O 1 (by omega) (by omega)
  have O2 := O 2 (by omega) (by omega)
  have O3 := O 3 (by omega) (by omega)
  have O4 := O 4 (by omega) (by omega)
  rw [key, hb 1 (by omega) (by omega)] at O1
  rw [key, hb 2 (by omega) (by omega)] at O2
  rw [key, hb 3 (by omega) (by omega)] at O3
  rw [key, hb 4 (by omega) (by omega)] at O4
  unfold nextV
  cases hw : wellB l with
  | false =>
    rw [hw] at O1 O2 O3 O4
    exact rnext_0 s k _ _ _ _ (Lib.hid O1) (Lib.hid O2) (Lib.hid O3) (Lib.hid O4) hk hs w
  | true =>
    rw [hw] at O1 O2 O3 O4 hb
    have hv : ¬ ((decodeL l).1 = 65533 ∧ (decodeL l).2 = 1) := by
      simp only [wellB, Bool.not_eq_true', decide_eq_false_iff_not] at hw
      exact hw
    obtain ⟨g1, g2, g3, g4⟩ := one_decode l hne hv
    have hlen : (decodeL l).2 ≤ l.length := by
      unfold oneB at g1
      simp only [Bool.and_eq_true, decide_eq_true_eq] at g1
      exact g1.1
    have hnum : (if (decodeL l).2 ≤ l.length then ((numN (l.take (decodeL l).2) : Nat) : Int) else 0) = ((decodeL l).1 : Nat) := by rw [if_pos hlen, g2]
    generalize (decodeL l).2 = j at *
    generalize (decodeL l).1 = p at *
    rcases (show j = 1 ∨ j = 2 ∨ j = 3 ∨ j = 4 by omega) with rfl | rfl | rfl | rfl
    · rw [hnum] at O1
      exact rnext_1 s k _ (Lib.hid O1) hk hs w
    · rw [hnum] at O2
      exact rnext_2 s k _ _ (Lib.hid O1) (Lib.hid O2) hk hs w
    · rw [hnum] at O3
      exact rnext_3 s k _ _ _ (Lib.hid O1) (Lib.hid O2) (Lib.hid O3) hk hs w
    · rw [hnum] at O4
      exact rnext_4 s k _ _ _ _ (Lib.hid O1) (Lib.hid O2) (Lib.hid O3) (Lib.hid O4) hk hs w
end Go.Proofs.YtbejhdhhkpllfaaGreatDoor
namespace Go.Proofs.YtbejhdhhkpllfaaGreatDoor
open Go.Lib
/-- What is left of a text is a text, and no longer. -/
def Cut (l t : List UInt8) : Prop := t.length ≤ l.length ∧ (validD l = true → validD t = true)
theorem Cut.refl (l : List UInt8) : Cut l l := ⟨Nat.le_refl _, id⟩
theorem Cut.trans {l t u : List UInt8} (h : Cut l t) (h' : Cut t u) : Cut l u := ⟨Nat.le_trans h'.1 h.1, fun x => h'.2 (h.2 x)⟩
theorem decode_ascii (c : UInt8) (l : List UInt8) (h : c.toNat < 128) : decodeL (c :: l) = (c.toNat, 1) := by
  have ho : oneB (c :: l) 1 = true := by
    unfold oneB
    rw [decide_eq_true (by simp), List.take_succ_cons, List.take_zero]
    simp only [Bool.true_and, Bool.and_eq_true, beq_iff_eq, numN]
    refine ⟨by simp only [isPt, decide_eq_true_eq]; omega, ?_⟩
    unfold encN
    rw [if_pos h, toN rfl]
  have := decode_one _ 1 ho
  rw [this]; rfl
theorem valid_cons (c : UInt8) (l : List UInt8) (h : c.toNat < 128) : validD (c :: l) = validD l := by
  rw [valid_step _ (by simp)]
  unfold wellB
  rw [decode_ascii c l h]
  rw [decide_eq_false (by intro h1; have := h1.1; simp at this; omega)]
  rfl
theorem cut_cons (c : UInt8) (l : List UInt8) (h : c.toNat < 128) : Cut (c :: l) l := ⟨by simp, fun x => by rw [valid_cons c l h] at x; exact x⟩
theorem cut_drop : ∀ (n : Nat) (l : List UInt8), (∀ c ∈ l.take n, c.toNat < 128) → Cut l (l.drop n)
  | 0, l, _ => by rw [List.drop_zero]; exact Cut.refl _
  | n + 1, [], _ => by rw [List.drop_nil]; exact Cut.refl _
  | n + 1, c :: l, h => by
    rw [List.drop_succ_cons]
    exact (cut_cons c l (h c (by simp))).trans (cut_drop n l fun x hx => h x (by simp [hx]))
theorem cut_while (p : UInt8 → Bool) (hp : ∀ c, p c = true → c.toNat < 128) : ∀ l : List UInt8, Cut l (l.dropWhile p)
  | [] => Cut.refl _
  | c :: l => by
    rw [List.dropWhile_cons]
    by_cases h : p c = true
    · rw [if_pos h]; exact (cut_cons c l (hp c h)).trans (cut_while p hp l)
    · rw [if_neg h]; exact Cut.refl _
theorem blank_ascii (c : UInt8) (h : blankJ c = true) : c.toNat < 128 := by
  unfold blankJ at h
  simp only [Bool.or_eq_true, beq_iff_eq] at h
  rcases h with ((h | h) | h) | h <;> (subst h; decide)
theorem cut_bl (l : List UInt8) : Cut l (blJ l) := cut_while _ blank_ascii l
theorem cut_tk (what l t : List UInt8) (hw : ∀ c ∈ what, c.toNat < 128) (h : tkJ what l = some t) : Cut l t ∧ t.length + what.length = l.length := by
  unfold tkJ at h
  split at h
  · rename_i hp
    injection h with h
    obtain ⟨u, rfl⟩ := List.isPrefixOf_iff_prefix.1 hp
    rw [List.drop_left] at h
    subst h
    refine ⟨?_, by rw [List.length_append]; omega⟩
    have := cut_drop what.length (what ++ u) (by rw [List.take_left]; exact hw)
    rw [List.drop_left] at this
    exact this
  · cases h
end Go.Proofs.YtbejhdhhkpllfaaGreatDoor
namespace Go.Proofs.YtbejhdhhkpllfaaGreatDoor
open Go.RowKit Go.Lib
theorem int_info : (Tryz.prog.info? 3).map (fun i => (i.zero, i.size, i.bytes)) = some (some (.int .i64 0), 1, 8) := by kernel_rfl
def natCells (l : List Nat) : List Value := l.map fun (n : Nat) => Value.int .i64 (n : Int)
/-- A slice of numbers of the call's own. -/
def OwnI (B : Nat) (v : Value) (l : List Nat) (W : World) : Prop := W.ownsRow B 3 1 v l.length (natCells l)
theorem OwnI.nil (B : Nat) (W : World) : OwnI B (.slice none 0 0) [] W := World.ownsRow_nil W B 3 1
theorem OwnI.below {B : Nat} {v : Value} {l : List Nat} {w w' : World} (h : OwnI B v l w) (hb : Below w.heap.size w w') : OwnI B v l w' := by
  obtain ⟨h1, h2⟩ := h
  refine ⟨h1, ?_⟩
  rcases h2 with h2 | ⟨g, cap, cur, hv, hB, hg, hrest⟩
  · exact Or.inl h2
  · have hlt : g < w.heap.size := (Array.getElem?_eq_some_iff.1 hg).1
    exact Or.inr ⟨g, cap, cur, hv, hB, (hb.block g hlt).trans hg, hrest⟩
theorem OwnI.alloc {B : Nat} {v : Value} {l : List Nat} {w : World} (h : OwnI B v l w) (o : Obj) : OwnI B v l (w.alloc o) := World.ownsRow.alloc h o
theorem OwnI.lt {B : Nat} {v : Value} {l : List Nat} {w : World} (h : OwnI B v l w) : ∀ k, v.ownBlock = some k → B ≤ k := fun k hk => (World.ownsRow.lt h k hk).1
theorem wpList_pushI {ops : Array Oper} {rest : List Oper} {o : Oper} {a : Act} {Q : Exit → Act → World → Prop} {w : World} (hgd : o.guard = none) (s x : Operand)
    (ho : o.op = .call { callee := .builtin .append, args := #[s, x], argTypes := #[116, 116] }) (B : Nat) (v : Value) (l : List Nat) (hs : a.eval s = v) (hown : OwnI B v l w)
    (ad : Addr) (c : Nat) (n : Nat) (hx : a.eval x = .slice (some ad) 1 c) (hnew : w.cell? ad = some (.int .i64 (n : Int))) (hlen : l.length + 1 ≤ 1000000) (hB : B ≤ w.heap.size)
    (h : ∀ v' w', OwnI B v' (l ++ [n]) w' → w.grownBy w' v.ownBlock → wpList Tryz.prog ops Q rest (a.put o.dst v') w') : wpList Tryz.prog ops Q (o :: rest) a w := by
  obtain ⟨i0, hi, hz0, hz1, hz2⟩ := info_parts int_info
  refine wpList_append_own w hgd s x 116 ho B 3 i0 (.int .i64 0) 1 8 Tryz.underlying116 hi hz0 hz1 hz2 rfl (by decide) v l.length (natCells l) hs hown ad 1 c [.int .i64 (n : Int)] hx rfl ?_ ?_ (by unfold maxLen; omega) (by omega) hB ?_
  · intro j u hj
    match j, hj with
    | 0, hj =>
      have e : u = .int .i64 (n : Int) := (Option.some.inj hj).symm
      rw [e]; exact hnew
    | j + 1, hj => cases hj
  · intro u hu; rw [List.mem_singleton] at hu; rw [hu]; rfl
  · intro v' w' h1 h2 _
    refine h v' w' ?_ h2
    unfold OwnI natCells at *
    rw [List.length_append, List.map_append]
    exact h1
theorem new_cell0 (W : World) (T : TypeId) (v : Value) : (W.alloc (.cells #[v] T)).cell? ⟨W.heap.size, 0, none⟩ = some v := by
  rw [Lib.cell_of_heap (heap_alloc_new W _)]; rfl
theorem well_step (l : List UInt8) (hne : l ≠ []) (hw : wellB l = true) : 1 ≤ (decodeL l).2 ∧ (decodeL l).2 ≤ 4 ∧ (decodeL l).2 ≤ l.length := by
  have hv : ¬ ((decodeL l).1 = 65533 ∧ (decodeL l).2 = 1) := by
    simp only [wellB, Bool.not_eq_true', decide_eq_false_iff_not] at hw
    exact hw
  obtain ⟨g1, g2, g3, g4⟩ := one_decode l hne hv
  refine ⟨g3, g4, ?_⟩
  unfold oneB at g1
  simp only [Bool.and_eq_true, decide_eq_true_eq] at g1
  exact g1.1
set_option maxRecDepth 100000 in
set_option maxHeartbeats 2000000 in
theorem rpoints_any (s : ByteArray) (hs : s.size ≤ 100000) (w : World) :
    Calls Tryz.prog 107 #[.string s] w fun e w' => ∃ v, e = .returned (.tuple #[v, .bool (validD s.data.toList)]) ∧ (validD s.data.toList = true → OwnI w.heap.size v (pts s.data.toList) w') ∧ Below w.heap.size w w' := by
  obtain ⟨r, hr⟩ : ∃ r, validD s.data.toList = r := ⟨_, rfl⟩
  obtain ⟨P, hP⟩ : ∃ P, pts s.data.toList = P := ⟨_, rfl⟩
  have HR : Hid (validD (s.data.toList.drop 0) = r) := Lib.hid (by rw [List.drop_zero]; exact hr)
  have HP : Hid ([] ++ pts (s.data.toList.drop 0) = P) := Lib.hid (by rw [List.drop_zero]; exact hP)
  rw [hr, hP]
  clear hr hP
  go_enter Tryz.func107, Tryz.ntmps107
  go_wp2_with fail
  go_loopg [4, 5] s.size (fun k u v wr => ∃ (j : Nat) (out : List Nat) (ov : Value), ov = u ∧ v = .int .i64 j ∧ k + j = s.size ∧ out.length ≤ j ∧ Hid (OwnI w.heap.size ov out wr) ∧ Hid (validD (s.data.toList.drop j) = r) ∧ Hid (out ++ pts (s.data.toList.drop j) = P) ∧ Below w.heap.size w wr)
  case atStart => exact ⟨0, [], _, rfl, rfl, by omega, by simp, Lib.hid (OwnI.nil _ _), HR, HP, Below.refl _ _⟩
  case round =>
    rename World => wo
    obtain ⟨j, out, ov, rfl, rfl, hk, hout, HO, HJ, HQ, hbw⟩ := hrel
    have hsz := hbw.size
    by_cases hlt : j < s.size
    · have H1 := Lib.hid (fun w => rnext_any s j hlt (by omega) w)
      have hl : (s.data.toList.drop j).length = s.size - j := by rw [List.length_drop, Array.length_toList]; rfl
      have hne : s.data.toList.drop j ≠ [] := by intro e; rw [e] at hl; simp at hl; omega
      unfold nextV at H1
      cases hw : wellB (s.data.toList.drop j) with
      | false =>
        rw [hw] at H1
        simp only [Bool.false_eq_true, if_false] at H1
        have HF : Hid (false = r) := Lib.hid (by rw [← HJ.out, valid_step _ hne, hw]; rfl)
        clear hw hne hl HJ HQ
        go_wp2_with fail
        refine (H1.out _).mono ?_; rintro e w1 ⟨rfl, hb⟩
        have hfin := hbw.trans (hb.mono hsz)
        clear hb
        go_wp2_with fail
        go_ret2
        exact ⟨_, congrArg (fun b : Bool => Ending.returned (Value.tuple #[.slice none 0 0, .bool b])) HF.out, fun h => absurd (HF.out.trans h) (by decide), hfin⟩
      | true =>
        obtain ⟨g1, g2, g3⟩ := well_step _ hne hw
        rw [hw] at H1
        simp only [if_true] at H1
        have HJ2 : Hid (validD (s.data.toList.drop (j + (decodeL (s.data.toList.drop j)).2)) = r) := Lib.hid (by
          have := HJ.out
          rw [valid_step _ hne, hw, Bool.true_and, List.drop_drop] at this
          exact this)
        have HQ2 : Hid ((out ++ [(decodeL (s.data.toList.drop j)).1]) ++ pts (s.data.toList.drop (j + (decodeL (s.data.toList.drop j)).2)) = P) := Lib.hid (by
          have := HQ.out
          rw [pts_step _ hne, List.drop_drop] at this
          rw [List.append_assoc]; exact this)
        rw [hl] at g3
        clear hw hne hl HJ HQ
        generalize (decodeL (s.data.toList.drop j)).2 = m at *
        generalize (decodeL (s.data.toList.drop j)).1 = p at *
        obtain ⟨g, rfl⟩ : ∃ g, gk = g + m := ⟨gk - m, by omega⟩
        go_wp2_with fail
        refine (H1.out _).mono ?_; rintro e w1 ⟨rfl, hb⟩
        have HO1 := Lib.hid (HO.out.below hb)
        have hbw1 := hbw.trans (hb.mono hsz)
        have hsz1 := hbw1.size
        clear hb HO hbw hsz
        go_wp2_with (at_builtin; refine wpList_pushI rfl _ _ rfl w.heap.size ov out rfl (HO1.out.alloc _) ⟨w1.heap.size, 0, none⟩ 1 p rfl (new_cell0 w1 _ _) ?c1 ?c2 ?_)
        case c1 => omega
        case c2 => simp; omega
        intro v' w3 hown' hgrow
        have hbw3 : Below w.heap.size w w3 := (hbw1.alloc hsz1 _).grown hgrow (by simp; omega) HO1.out.lt
        have HO3 := Lib.hid hown'
        clear hown' hgrow HO1 hbw1
        go_wp2_with fail
        go_roundg g
        case measure => omega
        case rel => exact ⟨j + m, out ++ [p], _, rfl, by go_num, by omega, by simp; omega, HO3, HJ2, HQ2, hbw3⟩
    · have hd : s.data.toList.drop j = [] := List.drop_of_length_le (by rw [Array.length_toList]; exact Nat.le_of_not_lt hlt)
      have HF : Hid (true = r) := Lib.hid (by rw [← HJ.out, hd]; rfl)
      have HO2 : Hid (OwnI w.heap.size ov P wo) := Lib.hid (by
        have := HQ.out
        rw [hd, pts_nil, List.append_nil] at this
        rw [← this]; exact HO.out)
      clear hd HJ HQ HO
      go_wp2_with fail
      go_ret2
      exact ⟨_, congrArg (fun b : Bool => Ending.returned (Value.tuple #[ov, .bool b])) HF.out, fun _ => HO2.out, hbw⟩
/-- What a text's check answers. -/
def chkE (l : List UInt8) : Int := if 16384 < l.length then 4 else if validD l then 0 else 10
end Go.Proofs.YtbejhdhhkpllfaaGreatDoor
namespace Go.Proofs.YtbejhdhhkpllfaaGreatDoor
open Go.RowKit
/-- A slice that reads as numbers. -/
def IntSl (v : Value) (l : List Nat) (W : World) : Prop := (∃ a cap, v = .slice a 0 cap ∧ l = []) ∨ ∃ b off cap, v = .slice (some ⟨b, off, none⟩) l.length cap ∧ ∀ (j : Nat) (x : Nat), l[j]? = some x → W.cell? ⟨b, off + j, none⟩ = some (.int .i64 (x : Int))
theorem IntSl.below {v : Value} {l : List Nat} {w w' : World} (h : IntSl v l w) (hb : Below w.heap.size w w') : IntSl v l w' := by
  rcases h with h | ⟨b, off, cap, h1, h2⟩
  · exact Or.inl h
  · exact Or.inr ⟨b, off, cap, h1, fun j x hj => (hb.cell (p := ⟨b, _, none⟩) (lt_of_cell (h2 j x hj))).trans (h2 j x hj)⟩
theorem OwnI.sl {B : Nat} {v : Value} {l : List Nat} {w : World} (h : OwnI B v l w) : IntSl v l w := by
  obtain ⟨h1, h2⟩ := h
  rcases h2 with ⟨h2, h3⟩ | ⟨g, cap, cur, hv, hB, hg, hn, hc, hcs, ht⟩
  · exact Or.inl ⟨_, _, h2, List.eq_nil_of_length_eq_zero h3⟩
  · refine Or.inr ⟨g, 0, cap, hv, ?_⟩
    intro j x hj
    rw [Nat.mul_one] at ht
    have hjl : j < l.length := (List.getElem?_eq_some_iff.1 hj).1
    have e : cur.toList[j]? = some (.int .i64 (x : Int)) := by
      have : (cur.toList.take l.length)[j]? = some (.int .i64 (x : Int)) := by rw [ht]; unfold natCells; rw [List.getElem?_map, hj]; rfl
      rw [List.getElem?_take] at this
      simpa [hjl] using this
    rw [Nat.zero_add]
    refine (Lib.cell_of_heap hg j).trans ?_
    simpa using e
theorem OwnI.rk {B r : Nat} {v : Value} {l : List Nat} {w w' : World} (h : OwnI B v l w) (hk : RK r w w') (hr : r < B) : OwnI B v l w' := by
  obtain ⟨h1, h2⟩ := h
  refine ⟨h1, ?_⟩
  rcases h2 with h2 | ⟨g, cap, cur, hv, hB, hg, hrest⟩
  · exact Or.inl h2
  · exact Or.inr ⟨g, cap, cur, hv, hB, hk.2 g _ hg (by omega), hrest⟩
theorem RK.grown {r : Nat} {w W W' : World} {row : Option Nat} (h : RK r w W) (hg : W.grownBy W' row) (hr : ∀ k, row = some k → w.heap.size ≤ k) (hlt : r < w.heap.size) : RK r w W' := by
  have hs := h.1.size
  refine ⟨h.1.grown hg (by omega) (fun k hk => by have := hr k hk; omega), fun k o hk hne => ?_⟩
  have h1 := h.2 k o hk hne
  have hkl := heap_lt hk
  rw [hg.block k (heap_lt h1) (fun e => by have := hr k e.symm; omega)]
  exact h1
end Go.Proofs.YtbejhdhhkpllfaaGreatDoor
namespace Go.Proofs.YtbejhdhhkpllfaaGreatDoor
open Go.RowKit
theorem str_info : (Tryz.prog.info? 9).map (fun i => (i.zero, i.size, i.bytes)) = some (some (.string ⟨#[]⟩), 1, 16) := by kernel_rfl
/-- A slice of texts of the call's own. -/
def OwnS (B : Nat) (v : Value) (l : List ByteArray) (W : World) : Prop := W.ownsRow B 9 1 v l.length (l.map Value.string)
theorem OwnS.nil (B : Nat) (W : World) : OwnS B (.slice none 0 0) [] W := World.ownsRow_nil W B 9 1
theorem OwnS.below {B : Nat} {v : Value} {l : List ByteArray} {w w' : World} (h : OwnS B v l w) (hb : Below w.heap.size w w') : OwnS B v l w' := by
  obtain ⟨h1, h2⟩ := h
  refine ⟨h1, ?_⟩
  rcases h2 with h2 | ⟨g, cap, cur, hv, hB, hg, hrest⟩
  · exact Or.inl h2
  · have hlt : g < w.heap.size := (Array.getElem?_eq_some_iff.1 hg).1
    exact Or.inr ⟨g, cap, cur, hv, hB, (hb.block g hlt).trans hg, hrest⟩
theorem OwnS.alloc {B : Nat} {v : Value} {l : List ByteArray} {w : World} (h : OwnS B v l w) (o : Obj) : OwnS B v l (w.alloc o) := World.ownsRow.alloc h o
theorem OwnS.lt {B : Nat} {v : Value} {l : List ByteArray} {w : World} (h : OwnS B v l w) : ∀ k, v.ownBlock = some k → B ≤ k := fun k hk => (World.ownsRow.lt h k hk).1
theorem wpList_pushS {ops : Array Oper} {rest : List Oper} {o : Oper} {a : Act} {Q : Exit → Act → World → Prop} {w : World} (hgd : o.guard = none) (s x : Operand)
    (ho : o.op = .call { callee := .builtin .append, args := #[s, x], argTypes := #[109, 109] }) (B : Nat) (v : Value) (l : List ByteArray) (hs : a.eval s = v) (hown : OwnS B v l w)
    (ad : Addr) (c : Nat) (n : ByteArray) (hx : a.eval x = .slice (some ad) 1 c) (hnew : w.cell? ad = some (.string n)) (hlen : l.length + 1 ≤ 1000000) (hB : B ≤ w.heap.size)
    (h : ∀ v' w', OwnS B v' (l ++ [n]) w' → w.grownBy w' v.ownBlock → wpList Tryz.prog ops Q rest (a.put o.dst v') w') : wpList Tryz.prog ops Q (o :: rest) a w := by
  obtain ⟨i0, hi, hz0, hz1, hz2⟩ := info_parts str_info
  refine wpList_append_own w hgd s x 109 ho B 9 i0 (.string ⟨#[]⟩) 1 16 Tryz.underlying109 hi hz0 hz1 hz2 rfl (by decide) v l.length (l.map Value.string) hs hown ad 1 c [.string n] hx rfl ?_ ?_ (by unfold maxLen; omega) (by omega) hB ?_
  · intro j u hj
    match j, hj with
    | 0, hj =>
      have e : u = .string n := (Option.some.inj hj).symm
      rw [e]; exact hnew
    | j + 1, hj => cases hj
  · intro u hu; rw [List.mem_singleton] at hu; rw [hu]; rfl
  · intro v' w' h1 h2 _
    refine h v' w' ?_ h2
    unfold OwnS at *
    rw [List.length_append, List.map_append]
    exact h1
theorem OwnS.cells {B : Nat} {v : Value} {l : List ByteArray} {w : World} (h : OwnS B v l w) : (v = .slice none 0 0 ∧ l = []) ∨ ∃ g cap, v = .slice (some ⟨g, 0, none⟩) l.length cap ∧ g < w.heap.size ∧ l.length ≤ cap ∧ ∀ (j : Nat) x, l[j]? = some x → w.cell? ⟨g, 0 + j, none⟩ = some (.string x) := by
  obtain ⟨h1, h2⟩ := h
  rcases h2 with ⟨h2, h3⟩ | ⟨g, cap, cur, hv, hB, hg, hn, hc, hcs, ht⟩
  · exact Or.inl ⟨h2, List.eq_nil_of_length_eq_zero h3⟩
  · refine Or.inr ⟨g, cap, hv, (Array.getElem?_eq_some_iff.1 hg).1, hn, ?_⟩
    intro j x hj
    rw [Nat.mul_one] at ht
    have hjl : j < l.length := (List.getElem?_eq_some_iff.1 hj).1
    have e : cur.toList[j]? = some (.string x) := by
      have : (cur.toList.take l.length)[j]? = some (.string x) := by rw [ht]; simp [hj]
      rw [List.getElem?_take] at this
      simpa [hjl] using this
    rw [Nat.zero_add]
    refine (Lib.cell_of_heap hg j).trans ?_
    simpa using e
end Go.Proofs.YtbejhdhhkpllfaaGreatDoor
namespace Go.Proofs.YtbejhdhhkpllfaaGreatDoor
open Go.RowKit Go.Lib
abbrev Ex := Except Int (List UInt8)
def tkE (what : List UInt8) (E : Ex) : Ex := match E with
  | .error e => .error e
  | .ok l => match tkJ what l with | none => .error 40 | some t => .ok t
def blE (E : Ex) : Ex := match E with | .error e => .error e | .ok l => .ok (blJ l)
theorem tkE_none {what l : List UInt8} (h : tkJ what l = none) : tkE what (.ok l) = .error 40 := by simp [tkE, h]
theorem tkE_some {what l t : List UInt8} (h : tkJ what l = some t) : tkE what (.ok l) = .ok t := by simp [tkE, h]
/-- What is left is a text. -/
def VaE (E : Ex) : Prop := match E with | .error _ => True | .ok l => validD l = true
theorem VaE.tk {what : List UInt8} {E : Ex} (h : VaE E) (hw : ∀ c ∈ what, c.toNat < 128) : VaE (tkE what E) := by
  cases E with
  | error e => trivial
  | ok l =>
    cases ht : tkJ what l with
    | none => rw [tkE_none ht]; trivial
    | some t => rw [tkE_some ht]; exact (cut_tk what l t hw ht).1.2 h
theorem VaE.bl {E : Ex} (h : VaE E) : VaE (blE E) := by
  cases E with
  | error e => trivial
  | ok l => exact (cut_bl l).2 h
end Go.Proofs.YtbejhdhhkpllfaaGreatDoor
namespace Go.Proofs.YtbejhdhhkpllfaaGreatDoor
open Go.RowKit
def celFlat : List Cel → List Value
  | [] => []
  | t :: r => .int .u8 (t.kind.toNat : Int) :: .string ⟨t.name.toArray⟩ :: .string ⟨t.text.toArray⟩ :: .int .i64 t.num :: .int .i64 t.many :: celFlat r
theorem celFlat_len : ∀ L : List Cel, (celFlat L).length = L.length * 5
  | [] => rfl
  | t :: r => by rw [celFlat]; simp [celFlat_len r]; omega
theorem celFlat_get : ∀ (L : List Cel) (k : Nat) (h : k < L.length), (celFlat L)[k * 5]? = some (.int .u8 (L[k].kind.toNat : Int)) ∧ (celFlat L)[k * 5 + 1]? = some (.string ⟨L[k].name.toArray⟩) ∧ (celFlat L)[k * 5 + 2]? = some (.string ⟨L[k].text.toArray⟩) ∧ (celFlat L)[k * 5 + 3]? = some (.int .i64 L[k].num) ∧ (celFlat L)[k * 5 + 4]? = some (.int .i64 L[k].many)
  | [], k, h => by simp at h
  | t :: r, 0, h => by simp [celFlat]
  | t :: r, k + 1, h => by
    have ih := celFlat_get r k (by simpa using h)
    rw [show (k + 1) * 5 = k * 5 + 1 + 1 + 1 + 1 + 1 from by omega]
    simp only [celFlat, List.getElem?_cons_succ, List.getElem_cons_succ]
    exact ih
/-- A slice of cells of the call's own. -/
def OwnC (B : Nat) (v : Value) (L : List Cel) (W : World) : Prop := W.ownsRow B 59 5 v L.length (celFlat L)
theorem OwnC.nil (B : Nat) (W : World) : OwnC B (.slice none 0 0) [] W := World.ownsRow_nil W B 59 5
theorem OwnC.lt {B : Nat} {v : Value} {l : List Cel} {w : World} (h : OwnC B v l w) : ∀ k, v.ownBlock = some k → B ≤ k := fun k hk => (World.ownsRow.lt h k hk).1
theorem OwnC.sl {B : Nat} {v : Value} {L : List Cel} {w : World} (h : OwnC B v L w) : CelSl v L w := by
  obtain ⟨h1, h2⟩ := h
  rcases h2 with ⟨rfl, h2⟩ | ⟨g, cap, cur, rfl, hB, hg, hn, hc, hcs, ht⟩
  · exact Or.inl ⟨_, _, rfl, List.eq_nil_of_length_eq_zero h2, fun _ => rfl⟩
  · by_cases h0 : L = []
    · subst h0
      exact Or.inl ⟨_, _, rfl, rfl, fun h => by cases h⟩
    refine Or.inr ⟨g, 0, cap, rfl, ?_, List.length_pos_iff.2 h0⟩
    intro k hk
    obtain ⟨g0, g1, g2, g3, g4⟩ := celFlat_get L k hk
    have F : ∀ j u, (celFlat L)[j]? = some u → w.cell? ⟨g, 0 + j, none⟩ = some u := by
      intro j u hj
      have hjl : j < L.length * 5 := by rw [← celFlat_len]; exact (List.getElem?_eq_some_iff.1 hj).1
      rw [← ht, List.getElem?_take, if_pos hjl] at hj
      rw [Nat.zero_add]
      refine (Lib.cell_of_heap hg j).trans ?_
      simpa using hj
    exact ⟨F _ _ g0, F _ _ g1, F _ _ g2, F _ _ g3, F _ _ g4⟩
end Go.Proofs.YtbejhdhhkpllfaaGreatDoor
namespace Go.Proofs.YtbejhdhhkpllfaaGreatDoor
open Go.RowKit Go.Lib
/-- All older blocks stay but one, and but a slice's own. -/
def VK (r : Nat) (v : Value) (W W' : World) : Prop := Below r W W' ∧ ∀ (k : Nat) (o : Obj), W.heap[k]? = some o → k ≠ r → v.ownBlock ≠ some k → W'.heap[k]? = some o
theorem VK.refl (r : Nat) (v : Value) (W : World) : VK r v W W := ⟨Below.refl _ _, fun _ _ h _ _ => h⟩
theorem VK.rk {r : Nat} {v : Value} {W W' W'' : World} (h : VK r v W W') (h' : RK r W' W'') : VK r v W W'' := ⟨h.1.trans h'.1, fun k o hk hne hv => h'.2 k o (h.2 k o hk hne hv) hne⟩
theorem VK.trans {r : Nat} {v v1 : Value} {W W' W'' : World} (h : VK r v W W') (h' : VK r v1 W' W'') (ho : ∀ k, v1.ownBlock = some k → v.ownBlock = some k ∨ W.heap.size ≤ k) : VK r v W W'' :=
  ⟨h.1.trans h'.1, fun k o hk hne hv => h'.2 k o (h.2 k o hk hne hv) hne (fun e => by
    rcases ho k e with h1 | h1
    · exact hv h1
    · have := heap_lt hk; omega)⟩
theorem OwnC.below {B : Nat} {v : Value} {l : List Cel} {w w' : World} (h : OwnC B v l w) (hb : Below w.heap.size w w') : OwnC B v l w' := by
  obtain ⟨h1, h2⟩ := h
  refine ⟨h1, ?_⟩
  rcases h2 with h2 | ⟨g, cap, cur, hv, hB, hg, hrest⟩
  · exact Or.inl h2
  · exact Or.inr ⟨g, cap, cur, hv, hB, (hb.block g (heap_lt hg)).trans hg, hrest⟩
theorem OwnC.rk {B r : Nat} {v : Value} {l : List Cel} {w w' : World} (h : OwnC B v l w) (hk : RK r w w') (hr : r < B) : OwnC B v l w' := by
  obtain ⟨h1, h2⟩ := h
  refine ⟨h1, ?_⟩
  rcases h2 with h2 | ⟨g, cap, cur, hv, hB, hg, hrest⟩
  · exact Or.inl h2
  · exact Or.inr ⟨g, cap, cur, hv, hB, hk.2 g _ hg (by omega), hrest⟩
theorem OwnS.rk {B r : Nat} {v : Value} {l : List ByteArray} {w w' : World} (h : OwnS B v l w) (hk : RK r w w') (hr : r < B) : OwnS B v l w' := by
  obtain ⟨h1, h2⟩ := h
  refine ⟨h1, ?_⟩
  rcases h2 with h2 | ⟨g, cap, cur, hv, hB, hg, hrest⟩
  · exact Or.inl h2
  · exact Or.inr ⟨g, cap, cur, hv, hB, hk.2 g _ hg (by omega), hrest⟩
/-- The own block, and the cells of one place. -/
theorem OwnC.form {B : Nat} {v : Value} {L : List Cel} {W : World} (h : OwnC B v L W) (k : Nat) (hk : k < L.length) : ∃ g cap, v = .slice (some ⟨g, 0, none⟩) L.length cap ∧ B ≤ g ∧ g < W.heap.size ∧ (∀ i, W.frozen? ⟨g, i, none⟩ = false) ∧
    W.cell? ⟨g, k * 5, none⟩ = some (.int .u8 (L[k].kind.toNat : Int)) ∧ W.cell? ⟨g, k * 5 + 2, none⟩ = some (.string ⟨L[k].text.toArray⟩) ∧ W.cell? ⟨g, k * 5 + 3, none⟩ = some (.int .i64 L[k].num) ∧ W.cell? ⟨g, k * 5 + 4, none⟩ = some (.int .i64 L[k].many) := by
  obtain ⟨h1, h2⟩ := h
  rcases h2 with ⟨rfl, h2⟩ | ⟨g, cap, cur, rfl, hB, hg, hn, hc, hcs, ht⟩
  · omega
  refine ⟨g, cap, rfl, hB, heap_lt hg, fun i => Lib.frozen_of_heap hg i, ?_⟩
  obtain ⟨g0, g1, g2, g3, g4⟩ := celFlat_get L k hk
  have F : ∀ j u, (celFlat L)[j]? = some u → W.cell? ⟨g, j, none⟩ = some u := by
    intro j u hj
    have hjl : j < L.length * 5 := by rw [← celFlat_len]; exact (List.getElem?_eq_some_iff.1 hj).1
    rw [← ht, List.getElem?_take, if_pos hjl] at hj
    refine (Lib.cell_of_heap hg j).trans ?_
    simpa using hj
  exact ⟨F _ _ g0, F _ _ g2, F _ _ g3, F _ _ g4⟩
theorem OwnC.set {B g i m cap : Nat} {v u : Value} {L L' : List Cel} {W : World} (h : OwnC B v L W) (hv : v = .slice (some ⟨g, 0, none⟩) m cap) (hl : L'.length = L.length) (hf : celFlat L' = (celFlat L).set i u) : OwnC B v L' (W.setCell ⟨g, i, none⟩ u) := by
  obtain ⟨h1, h2⟩ := h
  refine ⟨by rw [hl, hf, List.length_set]; exact h1, ?_⟩
  rcases h2 with ⟨rfl, h2⟩ | ⟨g', cap', cur, hv', hB, hg, hn, hc, hcs, ht⟩
  · cases hv
  · have e : g' = g := by rw [hv] at hv'; injection hv' with hv'; injection hv' with hv'; injection hv' with hv'; exact hv'.symm
    subst e
    refine Or.inr ⟨g', cap', cur.setIfInBounds i u, by rw [hl]; exact hv', hB, pset hg u rfl, by rw [hl]; exact hn, hc, by simp [hcs], ?_⟩
    rw [hl, hf, ← ht]
    simp [List.take_set]
theorem VK.set {r g i m cap : Nat} {v u : Value} {W : World} (hv : v = .slice (some ⟨g, 0, none⟩) m cap) (hr : r < g) : VK r v W (W.setCell ⟨g, i, none⟩ u) := by
  refine ⟨(Below.refl r W).setCell (p := ⟨g, i, none⟩) (Nat.le_of_lt hr) u, fun k o hk hne hvk => ?_⟩
  rw [Below.heap_setCell _ _ _ _ (fun e => hvk (by rw [hv]; simp only [Value.ownBlock]; first | exact congrArg some e | exact congrArg some e.symm))]
  exact hk
section
variable {r : Nat} {s : ByteArray} {w : World} {v0 v : Value} {out : List Cel} {E E' : Ex} {W W' : World}
end
end Go.Proofs.YtbejhdhhkpllfaaGreatDoor
namespace Go.Proofs.YtbejhdhhkpllfaaGreatDoor
open Go.RowKit
/-- The library's tables of UTF-8 hold what their text lays. -/
def EnvU (w : World) : Prop := Lib.Utf8Tabs (Tryz.lays196_ren.g 3) (Tryz.lays196_ren.g 4) w
theorem EnvU.below {w w' : World} (h : EnvU w) (hb : Below w.heap.size w w') : EnvU w' := Utf8Tabs_below h hb
set_option maxRecDepth 100000 in
theorem tcheck_any (s : ByteArray) (hs : s.size ≤ 1000000) (w : World) (hE : EnvU w) :
    Calls Tryz.prog 84 #[.string s] w fun e w' => e = .returned (.int .i64 (chkE s.data.toList)) ∧ Below w.heap.size w w' := by
  unfold chkE
  rw [show s.data.toList.length = s.size from by rw [Array.length_toList]; rfl]
  by_cases h : 16384 < s.size
  · rw [if_pos h]
    clear hE
    go_enter Tryz.func84, Tryz.ntmps84
    go_wp2_with fail
    go_ret
    exact ⟨rfl, Below.refl _ _⟩
  · rw [if_neg h]
    have H1 : Calls Tryz.prog 93 #[.string s] w fun e w' => e = .returned (.bool (Lib.validD s.data.toList)) ∧ Below w.heap.size w w' := Any.utf8_ValidString Tryz.lays196 s w (by omega) hE
    have h2 : s.size ≤ 16384 := by omega
    have HI := Lib.hid H1
    clear h hE H1
    generalize Lib.validD s.data.toList = r at *
    cases r
    all_goals
      go_enter Tryz.func84, Tryz.ntmps84
      go_wp2_with fail
      refine HI.out.mono ?_; rintro e w1 ⟨rfl, hb⟩
      go_wp2_with fail
      go_ret
      exact ⟨rfl, hb⟩
end Go.Proofs.YtbejhdhhkpllfaaGreatDoor
namespace Go.Proofs.YtbejhdhhkpllfaaGreatDoor
open Go.RowKit Go.Lib
theorem bsz (b : ByteArray) : b.data.toList.length = b.size := by rw [Array.length_toList]; rfl
end Go.Proofs.YtbejhdhhkpllfaaGreatDoor
namespace Go.Proofs.YtbejhdhhkpllfaaGreatDoor
open Go.RowKit

/-- What a variable holds, it holds behind a call that only makes blocks. -/
theorem var_stays {P : Program} {w w' : World} {n : String} {cs : Array Value} (hv : w.var? P n = some cs) (hb : Below w.heap.size w w') : w'.var? P n = some cs := by
  unfold World.var? at hv
  obtain ⟨g, hg, h2⟩ := Option.bind_eq_some_iff.1 hv
  have hlt : g < w.heap.size := by
    rcases Nat.lt_or_ge g w.heap.size with h | h
    · exact h
    · rw [Array.getElem?_eq_none h] at h2; cases h2
  unfold World.var?
  rw [hg]
  simp only [Option.bind_some]
  rw [hb.block g hlt]; exact h2
/-- What the library's variable holds. -/
structure Env (w : World) : Prop where
  rng : ∃ tp p, w.var? Tryz.prog "strconv.ErrRange" = some #[.iface tp p]
theorem Env.stays {w w' : World} (h : Env w) (hb : Below w.heap.size w w') : Env w' :=
  ⟨let ⟨tp, p, hv⟩ := h.rng; ⟨tp, p, var_stays hv hb⟩⟩
theorem Env.below {B : Nat} {w w' : World} (h : Env w) (hb : Below B w w') (hB : w.heap.size ≤ B) : Env w' := h.stays (hb.mono hB)
end Go.Proofs.YtbejhdhhkpllfaaGreatDoor
namespace Go.Proofs.YtbejhdhhkpllfaaGreatDoor
open Go.RowKit Go.Lib
def headE (n : Nat) (l : List UInt8) : Ex := if n = 0 then .ok l else blE (tkE [44] (.ok l))
theorem VaE.head {n : Nat} {l : List UInt8} (h : validD l = true) : VaE (headE n l) := by
  unfold headE
  split
  · exact h
  · exact VaE.bl (VaE.tk (E := .ok l) h (by decide))
end Go.Proofs.YtbejhdhhkpllfaaGreatDoor
namespace Go.Proofs.YtbejhdhhkpllfaaGreatDoor
open Go.RowKit Go.Lib
theorem acons {P : Program} {ops : Array Oper} {Q : Exit → Act → World → Prop} {md : Region.Mode} {S : World → Prop} (i : Nat) {fuel : Nat} {listed : Array Bool} {a : Act} {w : World} {o : Oper} {rs : List Nat} (ho : ops.toList[i]? = some o)
    (h : ∀ K' : Act → World → Prop, Shut (∀ a w, S w → (S w → wpAnyH P md ops Q S fuel (listed.setIfInBounds i true) a w) → K' a w) → if Region.wanted o (yielded ops a.tmps) = true then Oper.wp P o a w K' Q else K' (a.put o.dst undef) w)
    (hs : AllReadyH P md ops Q S fuel listed a w rs) : AllReadyH P md ops Q S fuel listed a w (i :: rs) :=
  AllReadyH.cons (by rw [← Array.getElem?_toList]; exact ho) h hs
end Go.Proofs.YtbejhdhhkpllfaaGreatDoor
namespace Go.Proofs.YtbejhdhhkpllfaaGreatDoor
open Go.RowKit Go.Maps
theorem names_keyed : Keyed Tryz.prog 9 := string_keyed Tryz.underlying9
theorem names_zero (w : World) : (zeroValue 3).run Tryz.prog w = .ok (.int .i64 0) w := by kernel_rfl
theorem names_key (x : ByteArray) (h : x.size ≤ maxLen) : keyOf Tryz.prog 9 (.string x) = some (.string x.data.toList) := Go.WideMaps.keyOf_string_mk Tryz.underlying9 h
/-- A map of the call's own that holds 1 at each of some names, and nothing else. -/
def NamesM (bm : Nat) (L : List (List UInt8)) (W : World) : Prop := ∃ (n : Nat) (D : DataW Unit), n ≤ L.length ∧ W.ownsMap Tryz.prog 9 (plainElem Tryz.prog 3) bm n D ∧ IsMap D ∧
  ∀ x : List UInt8, D.atKey (.string x) (.lit (.int .i64 0)) = .lit (.int .i64 (if amongB L x then 1 else 0))
theorem NamesM.made (W : World) : NamesM W.heap.size [] (W.alloc (.map #[] 0)) :=
  ⟨0, .map [], Nat.le_refl _, World.ownsMap_made _ _ _ _, isMap_empty, fun x => rfl⟩
theorem NamesM.lt {bm : Nat} {L : List (List UInt8)} {W : World} (h : NamesM bm L W) : bm < W.heap.size := by
  obtain ⟨n, D, _, h, _⟩ := h; exact h.lt
theorem NamesM.keep {bm : Nat} {L : List (List UInt8)} {W W' : World} (h : NamesM bm L W) (he : W'.heap[bm]? = W.heap[bm]?) : NamesM bm L W' := by
  obtain ⟨n, D, h0, ⟨es, clock, hb, F, hs, hD⟩, h2⟩ := h
  exact ⟨n, D, h0, ⟨es, clock, he.trans hb, F, hs, hD⟩, h2⟩
theorem NamesM.below {bm : Nat} {L : List (List UInt8)} {W W' : World} (h : NamesM bm L W) (hb : Below W.heap.size W W') : NamesM bm L W' := h.keep (hb.block bm h.lt)
theorem NamesM.grown {bm : Nat} {L : List (List UInt8)} {W W' : World} {row : Option Nat} (h : NamesM bm L W) (hb : W.grownBy W' row) (hne : some bm ≠ row) : NamesM bm L W' := h.keep (hb.block bm h.lt hne)
theorem NamesM.lookup {bm : Nat} {L : List (List UInt8)} {W : World} (h : NamesM bm L W) (x : ByteArray) (hx : x.size ≤ maxLen) :
    (Instr.lookup 118 (.map (some bm)) (.string x) false).run Tryz.prog W = .ok (.int .i64 (if amongB L x.data.toList then 1 else 0)) W := by
  obtain ⟨n, D, h0, h1, h2, h3⟩ := h
  obtain ⟨c, hrun, hat, hwc⟩ := h1.lookup_int names_keyed Tryz.underlying118 Tryz.underlying3 (names_zero W) (names_key x hx)
  rw [hrun]
  have := hat.symm.trans (h3 x.data.toList)
  simp only [DataW.lit.injEq, Lit.int.injEq, true_and] at this
  rw [this]
theorem NamesM.update {bm : Nat} {L : List (List UInt8)} {W : World} (h : NamesM bm L W) (x : ByteArray) (hx : x.size ≤ maxLen) (hL : L.length < 1000000) :
    ∃ W', (Instr.mapUpdate 118 (.map (some bm)) (.string x) (.int .i64 1)).run Tryz.prog W = .ok () W' ∧ NamesM bm (x.data.toList :: L) W' ∧ W.grownBy W' (some bm) := by
  obtain ⟨n, D, h0, h1, h2, h3⟩ := h
  obtain ⟨W', hrun, r1, r2⟩ := h1.update (kl := .string x.data.toList) (d := .lit (.int .i64 1)) (ps := []) names_keyed Tryz.underlying118 (by unfold maxLen; omega) (names_key x hx) (plainElem_int Tryz.underlying3 (by decide))
  refine ⟨W', hrun, ⟨n + 1, _, by simp; omega, r1, h2.put _ _, ?_⟩, r2⟩
  intro y
  by_cases hy : y = x.data.toList
  · subst hy
    rw [atKey_put_same h2 (by trivial)]
    have : amongB (x.data.toList :: L) x.data.toList = true := by unfold amongB; simp
    rw [this]; rfl
  · rw [atKey_put_other (fun e => hy (by injection e)), h3 y]
    have : amongB (x.data.toList :: L) y = amongB L y := by
      unfold amongB
      rw [List.any_cons]
      have : (x.data.toList == y) = false := beq_eq_false_iff_ne.2 fun e => hy e.symm
      rw [this, Bool.false_or]
    rw [this]
end Go.Proofs.YtbejhdhhkpllfaaGreatDoor
namespace Go.Proofs.YtbejhdhhkpllfaaGreatDoor
open Go.RowKit Go.Lib
/-- All older blocks but two stay. -/
def MK (p m : Nat) (W W' : World) : Prop := Below p W W' ∧ ∀ (k : Nat) (o : Obj), W.heap[k]? = some o → k ≠ p → k ≠ m → W'.heap[k]? = some o
theorem MK.of_rk {p m : Nat} {W W' : World} (h : RK p W W') : MK p m W W' := ⟨h.1, fun k o hk h1 _ => h.2 k o hk h1⟩
theorem MK.rk {p m : Nat} {W W' W'' : World} (h : MK p m W W') (h' : RK p W' W'') : MK p m W W'' := ⟨h.1.trans h'.1, fun k o hk h1 h2 => h'.2 k o (h.2 k o hk h1 h2) h1⟩
theorem MK.grown {p m : Nat} {W W' W'' : World} (h : MK p m W W') (hg : W'.grownBy W'' (some m)) (hp : p < m) (hlt : m < W'.heap.size) : MK p m W W'' :=
  ⟨h.1.grown hg (by omega) (fun k hk => by injection hk with hk; omega), fun k o hk h1 h2 => (hg.block k (heap_lt (h.2 k o hk h1 h2)) (fun e => h2 (by injection e))).trans (h.2 k o hk h1 h2)⟩
theorem NamesM.rk {bm p : Nat} {L : List (List UInt8)} {W W' : World} (h : NamesM bm L W) (hk : RK p W W') (hne : bm ≠ p) : NamesM bm L W' := by
  refine h.keep ?_
  have := Array.getElem?_eq_getElem h.lt
  rw [this]
  exact hk.2 bm _ this hne
theorem among_contains (L : List (List UInt8)) (n : List UInt8) : amongB L n = L.contains n := by
  unfold amongB
  induction L with
  | nil => rfl
  | cons a L ih =>
    rw [List.any_cons, List.contains_cons, ih]
    congr 1
    exact BEq.comm
section
variable {p bm : Nat} {w : World} {v0 v : Value} {out : List Cel} {l l' : List UInt8} {op op' : Int} {nm nm' : List (List UInt8)} {W W' : World}
theorem OwnC.mk {B p m : Nat} {v : Value} {L : List Cel} {W W' : World} (h : OwnC B v L W) (hk : MK p m W W') (hp : p < B) (hne : v.ownBlock ≠ some m) : OwnC B v L W' := by
  obtain ⟨h1, h2⟩ := h
  refine ⟨h1, ?_⟩
  rcases h2 with h2 | ⟨g, cap, cur, hv, hB, hg, hrest⟩
  · exact Or.inl h2
  · refine Or.inr ⟨g, cap, cur, hv, hB, hk.2 g _ hg (by omega) (fun e => hne ?_), hrest⟩
    rw [hv, ← e]; rfl
end
end Go.Proofs.YtbejhdhhkpllfaaGreatDoor
namespace Go.Proofs.YtbejhdhhkpllfaaGreatDoor
open Go.RowKit Go.Lib
/-- What Read tells: of any bytes. -/
def PReadE (B : Nat) (o : Except Int (List Cel)) (x : Ending) (W : World) : Prop := match o with
  | .error e => x = .returned (.tuple #[.slice none 0 0, .int .i64 e])
  | .ok out => out.length ≤ 2048 ∧ ∃ u, x = .returned (.tuple #[u, .int .i64 0]) ∧ OwnC B u out W
end Go.Proofs.YtbejhdhhkpllfaaGreatDoor
namespace Go.Proofs.YtbejhdhhkpllfaaGreatDoor
open Go.RowKit Go.Lib
theorem VK.nil {r : Nat} {W W' : World} (h : VK r (.slice none 0 0) W W') : RK r W W' := ⟨h.1, fun k o hk hne => h.2 k o hk hne (by intro e; cases e)⟩
end Go.Proofs.YtbejhdhhkpllfaaGreatDoor
namespace Go.Proofs.YtbejhdhhkpllfaaGreatDoor
open Go.Lib
def hidC (c : UInt8) : Bool := c == 32 || c == 9 || c == 13 || c == 10 || c == 44
def bomL : List UInt8 := [239, 187, 191]
/-- What counts for nothing, dropped (but for remarks). -/
def hidG : Nat → List UInt8 → List UInt8
  | 0, l => l
  | _ + 1, [] => []
  | f + 1, c :: r => if hidC c then hidG f r else if bomL.isPrefixOf (c :: r) then hidG f ((c :: r).drop 3) else c :: r
def hid0 (l : List UInt8) : List UInt8 := hidG l.length l
def lineC (c : UInt8) : Bool := c != 10 && c != 13
def badC (c : UInt8) : Bool := decide (c.toNat < 32) && c != 9
/-- What counts for nothing, dropped; false: behind it stands what may not be. -/
def skipG : Nat → List UInt8 → List UInt8 × Bool
  | 0, l => (l, true)
  | f + 1, l => match hid0 l with
    | [] => ([], true)
    | c :: r => if c = 35 then
        (let ln := (c :: r).takeWhile lineC
         if ln.any badC then ((c :: r).drop (ln.takeWhile fun x => !badC x).length, false) else skipG f ((c :: r).dropWhile lineC))
      else (c :: r, true)
def skip0 (l : List UInt8) : List UInt8 × Bool := skipG (l.length + 1) l
def nameT (l : List UInt8) : Option (List UInt8) := let a := l.takeWhile nameC; if nameB a then some a else none
def numTk (l : List UInt8) : Option (List UInt8) :=
  let d := (body l).takeWhile isDig
  let r := (body l).dropWhile isDig
  if okDigits d && !((r.head?.map fun c => nameC c || c == 46).getD false) then some ((if below l then [45] else []) ++ d) else none
/-- Behind a quote, up to the next one that no backslash stands ahead of: the bytes, tabs as \\t; how many. -/
def scanT : Bool → List UInt8 → Option (List UInt8 × Nat)
  | _, [] => none
  | q, c :: r => if !q && c == 34 then some ([], 1) else
    (scanT (!q && c == 92) r).map fun x => ((if c == 9 && !q then [92, 116] else [c]) ++ x.1, x.2 + 1)
/-- What json.Read tells of any bytes. -/
def jsonT (l : List UInt8) : Except Int (List Cel) := if 16384 < l.length then .error 4 else if !validD l then .error 10 else readJ l
def txtT (l : List UInt8) : Option (List UInt8 × Nat) := match l with
  | [] => none
  | c :: r => if c ≠ 34 ∨ [34, 34, 34].isPrefixOf (c :: r) then none else match scanT false r with
    | none => none
    | some (b, n) => match jsonT (34 :: (b ++ [34])) with
      | .error _ => none
      | .ok v => some ((v.headD ⟨0, [], [], 0, 0⟩).text, n + 1)
def punT (l : List UInt8) : Option (List UInt8) := if [46, 46, 46].isPrefixOf l then some [46, 46, 46] else match l with
  | [] => none
  | c :: _ => if marksL.contains c then some [c] else none
/-- The token that stands at the beginning: its kind, its text, how many bytes it has. -/
def tokG (l : List UInt8) : Option (UInt8 × List UInt8 × Nat) := match nameT l with
  | some a => some (1, a, a.length)
  | none => match numTk l with
    | some a => some (2, a, a.length)
    | none => match txtT l with
      | some (a, n) => some (3, a, n)
      | none => (punT l).map fun a => (4, a, a.length)
/-- The tokens, so many at most; or the error, and where. -/
def lexG : Nat → Nat → List UInt8 → List Tok → Except (Int × Nat) (List Tok)
  | k, at_, l, acc => match skip0 l with
    | (l1, ok) =>
      let at1 := at_ + (l.length - l1.length)
      if !ok then .error (170, at1) else if l1.isEmpty then .ok (acc ++ [⟨0, [], (at1 : Int)⟩]) else match k with
        | 0 => .error (171, at1)
        | k + 1 => match tokG l1 with
          | none => .error (170, at1)
          | some (kd, tx, n) => lexG k (at1 + n) (l1.drop n) (acc ++ [⟨kd, tx, (at1 : Int)⟩])
def lex0 (l : List UInt8) : Except (Int × Nat) (List Tok) := if 16384 < l.length then .error (4, 0) else if !validD l then .error (10, 0) else lexG 1024 0 l []
end Go.Proofs.YtbejhdhhkpllfaaGreatDoor
namespace Go.Proofs.YtbejhdhhkpllfaaGreatDoor
/-- How the rounds stand: so many to come, such names, so many cells taken. -/
def KS (V : List Cel) (d1 k : Nat) (isL : Bool) (o : Option Nat) (g : Nat) (nm : List (List UInt8)) (u : Nat) : Prop := (kidsN (valN d1) isL g nm (V.drop (k + 1 + u))).map (u + ·) = o
theorem KS.start {V : List Cel} {d1 k : Nat} {isL : Bool} {o : Option Nat} {g : Nat} (h : kidsN (valN d1) isL g [] (V.drop (k + 1)) = o) : KS V d1 k isL o g [] 0 := by
  unfold KS
  rw [Nat.add_zero, ← h]
  cases kidsN (valN d1) isL g [] (V.drop (k + 1)) with
  | none => rfl
  | some n => show some (0 + n) = some n; rw [Nat.zero_add]
theorem KS.done {V : List Cel} {d1 k : Nat} {isL : Bool} {o : Option Nat} {nm : List (List UInt8)} {u : Nat} (h : KS V d1 k isL o 0 nm u) : o = some u := by
  unfold KS at h
  rw [← h]
  cases hd : V.drop (k + 1 + u) <;> rfl
theorem KS.out_ {V : List Cel} {d1 k : Nat} {isL : Bool} {o : Option Nat} {g : Nat} {nm : List (List UInt8)} {u : Nat} (h : KS V d1 k isL o (g + 1) nm u) (hp : V.length ≤ k + 1 + u) : o = none := by
  unfold KS at h
  rw [List.drop_of_length_le hp] at h
  rw [← h]; rfl
theorem KS.bad {V : List Cel} {d1 k : Nat} {isL : Bool} {o : Option Nat} {g : Nat} {nm : List (List UInt8)} {u p : Nat} (h : KS V d1 k isL o (g + 1) nm u) (hpu : p = k + 1 + u) (hp : p < V.length) (hok : okN isL nm V[p].name = false) : o = none := by
  subst hpu
  unfold KS at h
  rw [List.drop_eq_getElem_cons hp, kidsN, hok] at h
  rw [← h]; rfl
theorem KS.fail {V : List Cel} {d1 k : Nat} {isL : Bool} {o : Option Nat} {g : Nat} {nm : List (List UInt8)} {u p : Nat} (h : KS V d1 k isL o (g + 1) nm u) (hpu : p = k + 1 + u) (hp : p < V.length) (hok : okN isL nm V[p].name = true) (hv : valN d1 (V.drop p) = none) : o = none := by
  subst hpu
  unfold KS at h
  rw [List.drop_eq_getElem_cons hp, kidsN, hok, ← List.drop_eq_getElem_cons hp, hv] at h
  rw [← h]; rfl
theorem KS.next {V : List Cel} {d1 k : Nat} {isL : Bool} {o : Option Nat} {g : Nat} {nm : List (List UInt8)} {u p n : Nat} (h : KS V d1 k isL o (g + 1) nm u) (hpu : p = k + 1 + u) (hp : p < V.length) (hok : okN isL nm V[p].name = true) (hv : valN d1 (V.drop p) = some n) : KS V d1 k isL o g (V[p].name :: nm) (u + n) := by
  subst hpu
  unfold KS at h ⊢
  rw [List.drop_eq_getElem_cons hp, kidsN, hok, ← List.drop_eq_getElem_cons hp, hv] at h
  rw [← h]
  show _ = Option.map (u + ·) ((kidsN (valN d1) isL g (V[k + 1 + u].name :: nm) ((V.drop (k + 1 + u)).drop n)).map (n + ·))
  rw [List.drop_drop, show k + 1 + (u + n) = k + 1 + u + n from by omega, Option.map_map]
  congr 1
  funext x
  show u + n + x = u + (n + x)
  omega
theorem endI_none {V : List Cel} {p d : Nat} (h : valN d (V.drop p) = none) : endI V p d = -1 := by unfold endI; rw [h]
theorem endI_some {V : List Cel} {p d n : Nat} (h : valN d (V.drop p) = some n) : endI V p d = ((p + n : Nat) : Int) := by unfold endI; rw [h]
end Go.Proofs.YtbejhdhhkpllfaaGreatDoor
namespace Go.Proofs.YtbejhdhhkpllfaaGreatDoor
open Go.Lib
/-- Cells whose names and texts are short. -/
def ShortV (V : List Cel) : Prop := ∀ c ∈ V, c.name.length ≤ 3000 ∧ c.text.length ≤ 3000 ∧ R c.num ∧ R c.many
theorem ShortV.drop {V : List Cel} (h : ShortV V) (n : Nat) : ShortV (V.drop n) := fun c hc => h c (List.mem_of_mem_drop hc)
/-- One round: where the next one begins. -/
theorem KS.step {V : List Cel} {d1 k : Nat} {isL : Bool} {n : Nat} {g : Nat} {nm : List (List UInt8)} {u p : Nat} (h : KS V d1 k isL (some n) (g + 1) nm u) (hpu : p = k + 1 + u) : ∃ (hp : p < V.length) (n1 : Nat), valN d1 (V.drop p) = some n1 ∧ KS V d1 k isL (some n) g (V[p].name :: nm) (u + n1) := by
  have hp : p < V.length := by
    rcases Nat.lt_or_ge p V.length with h' | h'
    · exact h'
    · have := h.out_ (by omega); cases this
  have hok : okN isL nm V[p].name = true := by
    cases ho : okN isL nm V[p].name with
    | true => rfl
    | false => have := h.bad hpu hp ho; cases this
  cases hv : valN d1 (V.drop p) with
  | none => have := h.fail hpu hp hok hv; cases this
  | some n1 => exact ⟨hp, n1, rfl, h.next hpu hp hok hv⟩
end Go.Proofs.YtbejhdhhkpllfaaGreatDoor
namespace Go.Proofs.YtbejhdhhkpllfaaGreatDoor
open Go.Lib
def kt (t : Tok) : UInt8 × List UInt8 := (t.kind, t.text)
end Go.Proofs.YtbejhdhhkpllfaaGreatDoor
namespace Go.Proofs.YtbejhdhhkpllfaaGreatDoor
open Go.Lib
/-- A cell that was read, of so many bytes. -/
def OkO (n : Nat) (x : Cel) : Prop := (x.kind == 4 || x.kind == 5) = false ∧ R x.num ∧ R x.many ∧ x.text.length ≤ n
theorem OkO.mono {n m : Nat} {x : Cel} (h : OkO n x) (hm : n ≤ m) : OkO m x := ⟨h.1, h.2.1, h.2.2.1, Nat.le_trans h.2.2.2 hm⟩
end Go.Proofs.YtbejhdhhkpllfaaGreatDoor
namespace Go.Proofs.YtbejhdhhkpllfaaGreatDoor
open Go.RowKit
theorem ib_cases (c : UInt8) : ∀ l : List UInt8, (l.contains c = true ∧ ∃ k : Nat, Lib.indexByte l c = k) ∨ (l.contains c = false ∧ Lib.indexByte l c = -1)
  | [] => Or.inr ⟨rfl, rfl⟩
  | b :: l => by
    rw [Lib.indexByte, List.contains_cons]
    by_cases hb : b = c
    · left; subst hb; exact ⟨by simp, 0, by simp⟩
    · have h1 : (b == c) = false := by simpa using hb
      have h2 : (c == b) = false := by simpa using fun e => hb e.symm
      rw [h1, h2, Bool.false_or]
      rcases ib_cases c l with ⟨g1, k, g2⟩ | ⟨g1, g2⟩
      · left
        refine ⟨g1, k + 1, ?_⟩
        rw [g2]
        have : (((k : Int)) == -1) = false := by rw [beq_eq_false_iff_ne]; omega
        simp only [Bool.false_eq_true, if_false, this]; omega
      · right
        refine ⟨g1, ?_⟩
        rw [g2]; rfl
theorem len_z (s : ByteArray) : s.data.toList.length = s.size := by rw [Array.length_toList]; rfl
theorem empty_z (s : ByteArray) : (0 < s.size ∧ ¬ s.toList = [] ∧ s.toList.isEmpty = false ∧ s.data.toList ≠ []) ∨ (s.size = 0 ∧ s.toList = [] ∧ s.toList.isEmpty = true ∧ s.data.toList = []) := by
  rw [ByteArray.toList_eq]
  have := len_z s
  cases h : s.data.toList with
  | nil => right; rw [h] at this; exact ⟨this.symm, rfl, rfl, rfl⟩
  | cons c r => left; rw [h] at this; exact ⟨by simp at this; omega, by simp, rfl, by simp⟩
def nameMs : List UInt8 := [95, 97, 98, 99, 100, 101, 102, 103, 104, 105, 106, 107, 108, 109, 110, 111, 112, 113, 114, 115, 116, 117, 118, 119, 120, 121, 122, 65, 66, 67, 68, 69, 70, 71, 72, 73, 74, 75, 76, 77, 78, 79, 80, 81, 82, 83, 84, 85, 86, 87, 88, 89, 90, 48, 49, 50, 51, 52, 53, 54, 55, 56, 57]
theorem all256' {f : UInt8 → Bool} (h : ∀ i : Fin 256, f (UInt8.ofNat i.val) = true) (c : UInt8) : f c = true := by
  have := h ⟨c.toNat, UInt8.toNat_lt c⟩
  simpa using this
theorem name_ms (c : UInt8) : nameMs.contains c = nameC c := by
  have := all256' (f := fun c => nameMs.contains c == nameC c) (by decide +kernel) c
  simpa using this
theorem head_z (s : ByteArray) (h : 0 < s.size) : s.data.toList = s[0] :: s.data.toList.drop 1 := by
  have := drop_at s 0 h
  rwa [List.drop_zero] at this
theorem ib_dig (c : UInt8) : Lib.indexByte (⟨#[48, 49, 50, 51, 52, 53, 54, 55, 56, 57]⟩ : ByteArray).data.toList c = if isDig c then ((c.toNat - 48 : Nat) : Int) else -1 := by
  have := all256' (f := fun c => Lib.indexByte (⟨#[48, 49, 50, 51, 52, 53, 54, 55, 56, 57]⟩ : ByteArray).data.toList c == if isDig c then ((c.toNat - 48 : Nat) : Int) else -1) (by decide +kernel) c
  simpa using this
theorem bytes_ext' {a : ByteArray} {l : List UInt8} (h : a.data.toList = l) : a = ⟨l.toArray⟩ := by
  obtain ⟨d⟩ := a
  have : d = l.toArray := by apply Array.ext'; simpa using h
  rw [this]
end Go.Proofs.YtbejhdhhkpllfaaGreatDoor
namespace Go.Proofs.YtbejhdhhkpllfaaGreatDoor
open Go.RowKit
/-- The string's iterator stands at a place; nothing older has turned. -/
def It (s : ByteArray) (B i : Nat) (w W : World) : Prop := W.heap[B]? = some (.stringIter s i) ∧ B < W.heap.size ∧ Below B w W
theorem It.start (s : ByteArray) (w : World) : It s w.heap.size 0 w (w.iter s 0) := by
  refine ⟨heap_alloc_new w _, ?_, ?_⟩
  · unfold World.iter; simp
  · unfold World.iter; exact (Below.refl _ _).alloc (Nat.le_refl _) _
theorem It.step {s : ByteArray} {B i : Nat} {w W : World} (h : It s B i w W) (j : Nat) : It s B j w (W.iterAt B s j) :=
  ⟨Lib.iterAt_heap W B s i j h.1, by rw [Lib.iterAt_size]; exact h.2.1, Lib.below_iterAt h.2.2 (Nat.le_refl _) s j⟩
theorem It.below {s : ByteArray} {B i : Nat} {w W w1 : World} (h : It s B i w W) (hB : B = w.heap.size) (hb : Below W.heap.size W w1) : It s B i w w1 :=
  ⟨(hb.block _ h.2.1).trans h.1, Nat.lt_of_lt_of_le h.2.1 hb.size, h.2.2.trans (hb.mono (Nat.le_of_lt h.2.1))⟩
end Go.Proofs.YtbejhdhhkpllfaaGreatDoor
namespace Go.Proofs.YtbejhdhhkpllfaaGreatDoor
open Go.RowKit
def fr (ms l : List UInt8) : List UInt8 := l.takeWhile (ms.contains ·)
theorem fr_take (ms l : List UInt8) : l.take (fr ms l).length = fr ms l := by
  unfold fr
  induction l with
  | nil => rfl
  | cons a l ih =>
    rw [List.takeWhile_cons]
    split
    · simp only [List.length_cons, List.take_succ_cons]; rw [ih]
    · rfl
set_option maxRecDepth 100000 in
set_option maxHeartbeats 1000000 in
theorem front_any (s ms : ByteArray) (hs : s.size ≤ 1000000) (w : World) :
    Calls Tryz.prog 35 #[.string s, .string ms] w fun e w' => e = .returned (.string ⟨(fr ms.data.toList s.data.toList).toArray⟩) ∧ w = w' := by
  obtain ⟨R, hR⟩ : ∃ R, (fr ms.data.toList s.data.toList).length = R := ⟨_, rfl⟩
  have ht := fr_take ms.data.toList s.data.toList
  rw [hR] at ht
  have HT := Lib.hid ht
  have HR : Hid (0 + (fr ms.data.toList (s.data.toList.drop 0)).length = R) := Lib.hid (by rw [List.drop_zero, Nat.zero_add]; exact hR)
  rw [← ht]
  clear hR ht
  go_enter Tryz.func35, Tryz.ntmps35
  go_wp2_with fail
  go_loop [8] (fun i => ∃ k : Nat, k ≤ s.size ∧ i = .int .i64 k ∧ Hid (k + (fr ms.data.toList (s.data.toList.drop k)).length = R)) (fun i => s.size - (intOf i).toNat)
  case atStart => exact ⟨0, Nat.zero_le _, rfl, HR⟩
  case round =>
    obtain ⟨k, hk, rfl, HK⟩ := hrel
    by_cases hlt : k < s.size
    · have hd := drop_at s k hlt
      have H1 : ∀ w, Calls Tryz.prog 34 #[.string ms, .int .u8 (s[k].toNat : Int)] w fun e w' => e = .returned (.int .i64 (Lib.indexByte ms.data.toList s[k])) ∧ w = w' := fun w => by
        have := Tryz.strings_IndexByte ms (s[k].toNat : Int) w
        rw [show ((s[k].toNat : Int)).toNat.toUInt8 = s[k] by simp] at this
        exact this.mono fun e w' ⟨h1, h2⟩ => ⟨h1, h2.symm⟩
      have hf : fr ms.data.toList (s.data.toList.drop k) = if ms.data.toList.contains s[k] then s[k] :: fr ms.data.toList (s.data.toList.drop (k + 1)) else [] := by
        rw [hd]; unfold fr; rw [List.takeWhile_cons]
      rcases ib_cases s[k] ms.data.toList with ⟨g1, n, g2⟩ | ⟨g1, g2⟩
      · rw [g1] at hf
        rw [g2] at H1
        have HK2 : Hid (k + 1 + (fr ms.data.toList (s.data.toList.drop (k + 1))).length = R) := Lib.hid (by have := HK.out; rw [hf] at this; simp at this; omega)
        have HI := Lib.hid H1
        have hn : ¬ (n : Int) < 0 := by omega
        clear hf H1 g1 g2 hd
        go_wp2_with fail
        refine (HI.out _).mono ?_; rintro e w1 ⟨rfl, rfl⟩
        go_wp2_with fail
        go_round
        case rel => exact ⟨k + 1, by omega, by go_num, HK2⟩
        case measure => simp [intOf]; omega
      · rw [g1] at hf
        rw [g2] at H1
        have HK2 : Hid (k = R) := Lib.hid (by have := HK.out; rw [hf] at this; simpa using this)
        have HI := Lib.hid H1
        have b1 : (k : Int) ≤ s.size := by omega
        have b2 : (0 : Int) ≤ k := by omega
        have HX : Hid (s.extract 0 k = ⟨(s.data.toList.take R).toArray⟩) := Lib.hid (by
          rw [← HK2.out]
          apply ByteArray.ext
          apply Array.ext'
          rw [ByteArray.data_extract, Array.toList_extract, List.extract_eq_take_drop]
          simp)
        clear hf H1 g1 g2 hd
        go_wp2_with fail
        refine (HI.out _).mono ?_; rintro e w1 ⟨rfl, rfl⟩
        go_wp2_with fail
        go_ret
        exact ⟨congrArg (fun z : ByteArray => Ending.returned (Value.string z)) HX.out, rfl⟩
    · have HX : Hid (s = ⟨(s.data.toList.take R).toArray⟩) := Lib.hid (by
        have := HK.out
        rw [List.drop_of_length_le (by rw [Array.length_toList]; exact Nat.le_of_not_lt hlt)] at this
        have hRs : s.size ≤ R := by simp [fr] at this; omega
        rw [List.take_of_length_le (by rw [Array.length_toList]; exact hRs)])
      go_wp2_with fail
      go_ret
      exact ⟨congrArg (fun z : ByteArray => Ending.returned (Value.string z)) HX.out, rfl⟩
end Go.Proofs.YtbejhdhhkpllfaaGreatDoor
namespace Go.Proofs.YtbejhdhhkpllfaaGreatDoor
open Go.RowKit
theorem fr_all (ms l : List UInt8) : (fr ms l == l) = l.all (ms.contains ·) := by
  unfold fr
  induction l with
  | nil => rfl
  | cons a l ih =>
    rw [List.takeWhile_cons, List.all_cons]
    cases ms.contains a with
    | true => simpa using ih
    | false => rfl
set_option maxRecDepth 100000 in
set_option maxHeartbeats 1000000 in
theorem lname_any (s : ByteArray) (hs : s.size ≤ 1000000) (w : World) :
    Calls Tryz.prog 11 #[.string s] w fun e w' => e = .returned (.bool (nameB s.data.toList)) ∧ w = w' := by
  rcases empty_z s with ⟨h0, h1, h2, h3⟩ | ⟨h0, h1, h2, h3⟩
  · have hr : nameB s.data.toList = (!isDig s[0] && (fr nameMs s.data.toList == s.data.toList)) := by
      rw [fr_all, show (nameMs.contains ·) = nameC from funext name_ms]
      have := head_z s h0
      rw [this]; rfl
    have H1 : ∀ w, Calls Tryz.prog 34 #[.string ⟨#[48, 49, 50, 51, 52, 53, 54, 55, 56, 57]⟩, .int .u8 (s[0].toNat : Int)] w fun e w' => e = .returned (.int .i64 (if isDig s[0] then ((s[0].toNat - 48 : Nat) : Int) else -1)) ∧ w = w' := fun w => by
      have := Tryz.strings_IndexByte ⟨#[48, 49, 50, 51, 52, 53, 54, 55, 56, 57]⟩ (s[0].toNat : Int) w
      rw [show ((s[0].toNat : Int)).toNat.toUInt8 = s[0] by simp, ib_dig] at this
      exact this.mono fun e w' ⟨h1, h2⟩ => ⟨h1, h2.symm⟩
    have H2 := Lib.hid (fun w => front_any s ⟨nameMs.toArray⟩ hs w)
    obtain ⟨r, hr2⟩ : ∃ r, nameB s.data.toList = r := ⟨_, rfl⟩
    rw [hr2]
    rw [hr2] at hr
    obtain ⟨F, hF⟩ : ∃ F : ByteArray, (⟨(fr (⟨nameMs.toArray⟩ : ByteArray).data.toList s.data.toList).toArray⟩ : ByteArray) = F := ⟨_, rfl⟩
    rw [hF] at H2
    have hc : (F.toList == s.toList) = (fr nameMs s.data.toList == s.data.toList) := by rw [← hF, ByteArray.toList_eq, ByteArray.toList_eq]
    rw [← hc] at hr
    have HR := Lib.hid hr
    unfold nameMs at H2
    clear hr hr2 hF hc
    cases hd : isDig s[0] with
    | true =>
      rw [hd] at H1 HR
      simp only [if_true] at H1
      have HI := Lib.hid H1
      have HF : Hid (false = r) := Lib.hid (by rw [HR.out]; rfl)
      clear H1 HR hd
      generalize s[0].toNat - 48 = n at *
      have hn : ¬ (n : Int) < 0 := by omega
      go_enter Tryz.func11, Tryz.ntmps11
      go_wp2_with fail
      refine (HI.out _).mono ?_; rintro e w1 ⟨rfl, rfl⟩
      go_wp2_with fail
      go_ret
      exact ⟨ret_b HF.out, rfl⟩
    | false =>
      rw [hd] at H1 HR
      simp only [Bool.false_eq_true, if_false] at H1
      have HI := Lib.hid H1
      have HF : Hid ((F.toList == s.toList) = r) := Lib.hid (by rw [HR.out]; rfl)
      clear H1 HR hd
      go_enter Tryz.func11, Tryz.ntmps11
      go_wp2_with fail
      refine (HI.out _).mono ?_; rintro e w1 ⟨rfl, rfl⟩
      go_wp2_with fail
      refine (H2.out _).mono ?_; rintro e w1 ⟨rfl, rfl⟩
      go_wp2_with fail
      go_ret
      exact ⟨ret_b HF.out, rfl⟩
  · have hr : nameB s.data.toList = false := by rw [h3]; rfl
    rw [hr]
    clear h0 h3 hr
    go_enter Tryz.func11, Tryz.ntmps11
    go_wp2_with fail
    go_ret
    exact ⟨rfl, rfl⟩
theorem dig_ms (c : UInt8) : ([48, 49, 50, 51, 52, 53, 54, 55, 56, 57] : List UInt8).contains c = isDig c := by
  have := all256' (f := fun c => ([48, 49, 50, 51, 52, 53, 54, 55, 56, 57] : List UInt8).contains c == isDig c) (by decide +kernel) c
  simpa using this
end Go.Proofs.YtbejhdhhkpllfaaGreatDoor
namespace Go.Proofs.YtbejhdhhkpllfaaGreatDoor
open Go.Lib
/-- What is left, and no line end ahead of it. -/
def Nl (l t : List UInt8) : Prop := ∃ u, l = u ++ t ∧ ∀ c ∈ u, c ≠ 10
theorem Nl.refl (l : List UInt8) : Nl l l := ⟨[], rfl, fun c h => by cases h⟩
theorem Nl.trans {l t v : List UInt8} (h : Nl l t) (h' : Nl t v) : Nl l v := by
  obtain ⟨u, rfl, hu⟩ := h
  obtain ⟨w, rfl, hw⟩ := h'
  refine ⟨u ++ w, by rw [List.append_assoc], fun c hc => ?_⟩
  rcases List.mem_append.1 hc with hc | hc
  · exact hu c hc
  · exact hw c hc
end Go.Proofs.YtbejhdhhkpllfaaGreatDoor
namespace Go.Proofs.YtbejhdhhkpllfaaGreatDoor
open Go.RowKit
/-- Nothing bad so far. -/
def Good (R : List UInt8) (k : Nat) : Prop := (R.take k).any badC = false
theorem Good.step {R : List UInt8} {k : Nat} (h : Good R k) (hk : k < R.length) (hb : badC R[k] = false) : Good R (k + 1) := by
  unfold Good at *
  rw [List.take_succ_eq_append_getElem hk, List.any_append, h]
  simp [hb]
end Go.Proofs.YtbejhdhhkpllfaaGreatDoor
namespace Go.Proofs.YtbejhdhhkpllfaaGreatDoor
open Go.Lib
/-- So far: what has been put, whether a backslash stands ahead, what is left, how many bytes have been passed. -/
def Sc (r pre : List UInt8) (q : Bool) (t : List UInt8) (k : Nat) : Prop := scanT false r = (scanT q t).map fun x => (pre ++ x.1, x.2 + k)
theorem Sc.start (r : List UInt8) : Sc r [] false r 0 := by
  unfold Sc
  cases scanT false r <;> simp
theorem Sc.step {r pre t : List UInt8} {q : Bool} {c : UInt8} {k : Nat} (h : Sc r pre q (c :: t) k) (hc : (!q && c == 34) = false) :
    Sc r (pre ++ (if c == 9 && !q then [92, 116] else [c])) (!q && c == 92) t (k + 1) := by
  unfold Sc at *
  rw [h, scanT, hc]
  simp only [Bool.false_eq_true, if_false, Option.map_map]
  cases scanT (!q && c == 92) t with
  | none => rfl
  | some x =>
    simp only [Option.map_some, Function.comp]
    rw [List.append_assoc, Nat.add_assoc, Nat.add_comm 1 k]
end Go.Proofs.YtbejhdhhkpllfaaGreatDoor
namespace Go.Proofs.YtbejhdhhkpllfaaGreatDoor
open Go.RowKit
def rdErr (o : Except Int (List Cel)) : Int := match o with | .error e => e | .ok _ => 0
def rdOut (o : Except Int (List Cel)) : List Cel := match o with | .error _ => [] | .ok l => l
theorem CelSl.nil (W : World) : CelSl (.slice none 0 0) [] W := (OwnC.nil 0 W).sl
theorem PReadE.sl {B : Nat} {o : Except Int (List Cel)} {x : Ending} {W : World} (h : PReadE B o x W) : (rdOut o).length ≤ 2048 ∧ ∃ u, x = .returned (.tuple #[u, .int .i64 (rdErr o)]) ∧ CelSl u (rdOut o) W := by
  cases o with
  | error e => exact ⟨by simp [rdOut], _, h, CelSl.nil W⟩
  | ok out => obtain ⟨h1, u, h2, h3⟩ := h; exact ⟨h1, u, h2, h3.sl⟩
end Go.Proofs.YtbejhdhhkpllfaaGreatDoor
namespace Go.Proofs.YtbejhdhhkpllfaaGreatDoor
open Go.RowKit
/-- The token's cells, and nothing older has turned. -/
structure TZ (w : World) (A : Array Value) (W : World) : Prop where
  ht : W.heap[w.heap.size + 1]? = some (.cells A 111 (0, 0))
  bel : Below w.heap.size w W
theorem TZ.step {w W W' : World} {A : Array Value} (h : TZ w A W) (hb : Below W.heap.size W W') : TZ w A W' := ⟨(hb.block _ (heap_lt h.ht)).trans h.ht, h.bel.trans (hb.mono h.bel.size)⟩
end Go.Proofs.YtbejhdhhkpllfaaGreatDoor
namespace Go.Proofs.YtbejhdhhkpllfaaGreatDoor
open Go.RowKit
theorem tok_info : (Tryz.prog.info? 111).map (fun i => (i.zero, i.size, i.bytes)) = some (some (.agg #[.int .u8 0, .string ⟨#[]⟩, .int .i64 0]), 3, 32) := by kernel_rfl
def tokCells : List Tok → List Value
  | [] => []
  | t :: r => .int .u8 (t.kind.toNat : Int) :: .string ⟨t.text.toArray⟩ :: .int .i64 t.pos :: tokCells r
theorem tokCells_len : ∀ L : List Tok, (tokCells L).length = L.length * 3
  | [] => rfl
  | t :: r => by rw [tokCells]; simp [tokCells_len r]; omega
theorem tokCells_app : ∀ L M : List Tok, tokCells (L ++ M) = tokCells L ++ tokCells M
  | [], _ => rfl
  | t :: r, M => by rw [List.cons_append, tokCells, tokCells_app r M, tokCells]; rfl
theorem tokCells_one : ∀ L : List Tok, ∀ u ∈ tokCells L, u.oneCell' = true
  | [], u, h => by cases h
  | t :: r, u, h => by
    rw [tokCells] at h
    rcases List.mem_cons.1 h with h | h
    · rw [h]; rfl
    rcases List.mem_cons.1 h with h | h
    · rw [h]; rfl
    rcases List.mem_cons.1 h with h | h
    · rw [h]; rfl
    · exact tokCells_one r u h
theorem tokCells_get : ∀ (L : List Tok) (k : Nat) (h : k < L.length), (tokCells L)[k * 3]? = some (.int .u8 (L[k].kind.toNat : Int)) ∧ (tokCells L)[k * 3 + 1]? = some (.string ⟨L[k].text.toArray⟩) ∧ (tokCells L)[k * 3 + 2]? = some (.int .i64 L[k].pos)
  | [], k, h => by simp at h
  | t :: r, 0, h => by simp [tokCells]
  | t :: r, k + 1, h => by
    have ih := tokCells_get r k (by simpa using h)
    rw [show (k + 1) * 3 = k * 3 + 1 + 1 + 1 from by omega, show k * 3 + 1 + 1 + 1 + 1 = k * 3 + 1 + 1 + 1 + 1 from rfl]
    simp only [tokCells, List.getElem?_cons_succ, List.getElem_cons_succ]
    exact ih
theorem row_cells : ∀ (L : List Tok) (b off : Nat) (w : World), TokRow b off L w → ∀ j u, (tokCells L)[j]? = some u → w.cell? ⟨b, off + j, none⟩ = some u
  | [], b, off, w, h, j, u, hu => by simp [tokCells] at hu
  | t :: r, b, off, w, h, j, u, hu => by
    obtain ⟨c0, c1, c2⟩ := h 0 (by simp)
    rw [tokCells] at hu
    match j, hu with
    | 0, hu => rw [← hu]; simpa using c0
    | 1, hu => rw [← hu]; simpa using c1
    | 2, hu => rw [← hu]; simpa using c2
    | j + 3, hu =>
      have ht : TokRow b (off + 3) r w := by
        intro k hk
        have := h (k + 1) (by simpa using hk)
        rw [show off + (k + 1) * 3 = off + 3 + k * 3 from by omega] at this
        exact this
      have := row_cells r b (off + 3) w ht j u (by simpa using hu)
      rw [show off + (j + 3) = off + 3 + j from by omega]
      exact this
theorem addr_addT (b o j : Nat) : (⟨b, o, none⟩ : Addr).add j = ⟨b, o + j, none⟩ := by
  unfold Addr.add
  split
  · rename_i hz; rw [hz]; rfl
  · rfl
/-- A slice of tokens of the call's own. -/
def OwnT (B : Nat) (v : Value) (L : List Tok) (W : World) : Prop := W.ownsRow B 111 3 v L.length (tokCells L)
theorem OwnT.nil (B : Nat) (W : World) : OwnT B (.slice none 0 0) [] W := World.ownsRow_nil W B 111 3
theorem OwnT.below {B : Nat} {v : Value} {l : List Tok} {w w' : World} (h : OwnT B v l w) (hb : Below w.heap.size w w') : OwnT B v l w' := by
  obtain ⟨h1, h2⟩ := h
  refine ⟨h1, ?_⟩
  rcases h2 with h2 | ⟨g, cap, cur, hv, hB, hg, hrest⟩
  · exact Or.inl h2
  · have hlt : g < w.heap.size := (Array.getElem?_eq_some_iff.1 hg).1
    exact Or.inr ⟨g, cap, cur, hv, hB, (hb.block g hlt).trans hg, hrest⟩
theorem OwnT.alloc {B : Nat} {v : Value} {l : List Tok} {w : World} (h : OwnT B v l w) (o : Obj) : OwnT B v l (w.alloc o) := World.ownsRow.alloc h o
theorem OwnT.lt {B : Nat} {v : Value} {l : List Tok} {w : World} (h : OwnT B v l w) : ∀ k, v.ownBlock = some k → B ≤ k := fun k hk => (World.ownsRow.lt h k hk).1
theorem OwnT.sl {B : Nat} {v : Value} {L : List Tok} {w : World} (h : OwnT B v L w) : TokSl v L w := by
  obtain ⟨h1, h2⟩ := h
  rcases h2 with ⟨rfl, h2⟩ | ⟨g, cap, cur, rfl, hB, hg, hn, hc, hcs, ht⟩
  · exact Or.inl ⟨_, _, rfl, List.eq_nil_of_length_eq_zero h2, fun _ => rfl⟩
  · refine Or.inr ⟨g, 0, cap, rfl, ?_⟩
    intro k hk
    obtain ⟨g0, g1, g2⟩ := tokCells_get L k hk
    have F : ∀ j u, (tokCells L)[j]? = some u → w.cell? ⟨g, 0 + j, none⟩ = some u := by
      intro j u hj
      have hjl : j < L.length * 3 := by rw [← tokCells_len]; exact (List.getElem?_eq_some_iff.1 hj).1
      rw [← ht, List.getElem?_take, if_pos hjl] at hj
      rw [Nat.zero_add]
      refine (Lib.cell_of_heap hg j).trans ?_
      simpa using hj
    exact ⟨F _ _ g0, F _ _ g1, F _ _ g2⟩
end Go.Proofs.YtbejhdhhkpllfaaGreatDoor
namespace Go.Proofs.YtbejhdhhkpllfaaGreatDoor
open Go.Lib
/-- Are these a text's tokens, and is its end where the text ends? -/
def isL (l : List UInt8) (want : List (UInt8 × List UInt8)) : Bool := match lex0 l with
  | .error _ => false
  | .ok L => L.map kt == want ++ [(0, [])] && (L.getLastD ⟨0, [], -1⟩).pos == (l.length : Int)
end Go.Proofs.YtbejhdhhkpllfaaGreatDoor
namespace Go.Proofs.YtbejhdhhkpllfaaGreatDoor
open Go.RowKit
theorem OwnT.form {B : Nat} {v : Value} {L : List Tok} {W : World} (h : OwnT B v L W) : ∃ a n c, v = .slice a n c ∧ n = L.length := by
  rcases h.2 with ⟨h1, h2⟩ | ⟨g, cap, cur, hv, _⟩
  · exact ⟨none, 0, 0, h1, h2.symm⟩
  · exact ⟨_, _, _, hv, rfl⟩
/-- A slice of the call's own stays when another one grows. -/
theorem OwnT.other {B : Nat} {v : Value} {L : List Tok} {W W' : World} {r : Option Nat} (h : OwnT B v L W) (hg : W.grownBy W' r) (hne : ∀ k, v.ownBlock = some k → r ≠ some k) : OwnT B v L W' := by
  obtain ⟨h1, h2⟩ := h
  refine ⟨h1, ?_⟩
  rcases h2 with h2 | ⟨g, cap, cur, hv, hB, hgg, hrest⟩
  · exact Or.inl h2
  · refine Or.inr ⟨g, cap, cur, hv, hB, ?_, hrest⟩
    rw [hg.block g (heap_lt hgg) (fun e => hne g (by rw [hv]; rfl) e.symm)]
    exact hgg
end Go.Proofs.YtbejhdhhkpllfaaGreatDoor
namespace Go.Proofs.YtbejhdhhkpllfaaGreatDoor
open Go.Lib
def nmT (s : List UInt8) : Tok := ⟨1, s, 0⟩
def mkT (s : List UInt8) : Tok := ⟨4, s, 0⟩
def litK (c : Cel) : List Tok :=
  if c.kind = 0 then [nmT [110, 117, 108, 108]] else if c.kind = 1 then [nmT (if c.num = 1 then [116, 114, 117, 101] else [102, 97, 108, 115, 101])]
  else if c.kind = 2 then [⟨2, Lib.itoa c.num, 0⟩] else if c.kind = 3 then [⟨3, c.text, 0⟩] else if c.kind = 4 then [nmT c.text] else [mkT [36], nmT c.text]
def preK (isO : Bool) (l : List Cel) : List Tok := if isO then [nmT (l.headD ⟨0, [], [], 0, 0⟩).name, mkT [58]] else []
/-- The tokens of so many items, members. -/
def kidsK (val : List Cel → Option Nat) (tk : List Cel → List Tok) (isO : Bool) : Nat → List Cel → List Tok
  | 0, _ => []
  | n + 1, l => preK isO l ++ (tk l ++ kidsK val tk isO n (l.drop ((val l).getD 0)))
def opnK (c : Cel) : Tok := mkT (if c.kind == 6 then [91] else [123])
def shtK (c : Cel) : Tok := mkT (if c.kind == 6 then [93] else [125])
def headK (kids : Cel → List Cel → List Tok) : List Cel → List Tok
  | [] => []
  | c :: r => if nestC c then opnK c :: (kids c r ++ [shtK c]) else litK c
/-- The tokens of the value that begins a list. -/
def tokK : Nat → List Cel → List Tok
  | 0 => headK fun _ _ => []
  | d + 1 => headK fun c r => kidsK (valN d) (tokK d) (!(c.kind == 6)) c.many.toNat r
theorem headK_cons (kids : Cel → List Cel → List Tok) (c : Cel) (r : List Cel) : headK kids (c :: r) = if nestC c then opnK c :: (kids c r ++ [shtK c]) else litK c := rfl
theorem tokK_zero (l : List Cel) : tokK 0 l = headK (fun _ _ => []) l := rfl
theorem tokK_more (d : Nat) (l : List Cel) : tokK (d + 1) l = headK (fun c r => kidsK (valN d) (tokK d) (!(c.kind == 6)) c.many.toNat r) l := rfl
theorem litK_len (c : Cel) : (litK c).length ≤ 2 := by
  unfold litK
  repeat' split
  all_goals simp
theorem preK_len (isO : Bool) (l : List Cel) : (preK isO l).length ≤ 2 := by
  unfold preK
  split <;> simp
theorem kidsK_len (f : List Cel → Option Nat) (tf : List Cel → List Tok) (h : ∀ l k, f l = some k → (tf l).length + 2 ≤ 4 * k) (isL isO : Bool) : ∀ (n : Nat) (nm : List (List UInt8)) (l : List Cel) (k : Nat), kidsN f isL n nm l = some k → (kidsK f tf isO n l).length ≤ 4 * k
  | 0, nm, l, k, _ => by simp [kidsK]
  | n + 1, nm, [], k, hk => by cases hk
  | n + 1, nm, c :: r, k, hk => by
    rw [kidsN] at hk
    split at hk
    · split at hk
      · cases hk
      · rename_i k1 hk1
        have h1 := h _ _ hk1
        rw [Option.map_eq_some_iff] at hk
        obtain ⟨k2, hk2, hk3⟩ := hk
        have ih := kidsK_len f tf h isL isO n _ _ k2 hk2
        rw [kidsK, hk1, Option.getD_some, List.length_append, List.length_append]
        have := preK_len isO (c :: r)
        omega
    · cases hk
/-- A value of so many cells has four times as many tokens at most. -/
theorem tokK_len : ∀ (d : Nat) (l : List Cel) (k : Nat), valN d l = some k → (tokK d l).length + 2 ≤ 4 * k
  | 0, [], k, h => by cases h
  | 0, c :: r, k, h => by
    have hk := (valN_le 0 _ _ h).1
    rw [valN_zero, headN_cons] at h
    rw [tokK_zero, headK_cons]
    cases h1 : oneC c with
    | false => rw [h1] at h; cases h
    | true =>
      cases h2 : nestC c with
      | true => rw [h1, h2] at h; cases h
      | false => rw [if_neg (by decide)]; have := litK_len c; omega
  | d + 1, [], k, h => by cases h
  | d + 1, c :: r, k, h => by
    have hk := (valN_le (d + 1) _ _ h).1
    rw [valN_more, headN_cons] at h
    rw [tokK_more, headK_cons]
    cases h1 : oneC c with
    | false => rw [h1] at h; cases h
    | true =>
      cases h2 : nestC c with
      | false => rw [if_neg (by decide)]; have := litK_len c; omega
      | true =>
        rw [h1, h2, if_pos rfl, if_pos rfl, Option.map_eq_some_iff] at h
        obtain ⟨k2, hk2, hk3⟩ := h
        rw [if_pos rfl]
        have := kidsK_len (valN d) (tokK d) (fun l k hl => tokK_len d l k hl) _ (!(c.kind == 6)) _ _ _ k2 hk2
        rw [List.length_cons, List.length_append, List.length_singleton]
        omega
end Go.Proofs.YtbejhdhhkpllfaaGreatDoor
namespace Go.Proofs.YtbejhdhhkpllfaaGreatDoor
open Go.Lib
def wordsK : List (List UInt8) := [[110, 117, 108, 108], [116, 114, 117, 101], [102, 97, 108, 115, 101]]
/-- May a literal be? -/
def litB (V : List Cel) : Bool := mayB V && V.all fun c => (c.name.isEmpty || nameB c.name) && !(c.kind == 4 && wordsK.contains c.text)
end Go.Proofs.YtbejhdhhkpllfaaGreatDoor
namespace Go.Proofs.YtbejhdhhkpllfaaGreatDoor
open Go.RowKit
theorem ix_indexByteString_run (s : ByteArray) (c : Int) (w : World) :
    (callFunc 69 #[.string s, .int .u8 c]).run Tryz.prog w = .ok (.value (.int .i64 (Lib.indexByte s.data.toList c.toNat.toUInt8))) w := by
  rw [run_callFunc_extern Tryz.func69 (by kernel_rfl) (by kernel_rfl) (by kernel_rfl) (e := Extern.BytealgIndexByte.indexByte) (by kernel_rfl), Lib.run_indexByteString]
  rfl
theorem ix_slIndexByte_any (s : ByteArray) (c : Int) (w : World) :
    Calls Tryz.prog 55 #[.string s, .int .u8 c] w fun e w' => e = .returned (.int .i64 (Lib.indexByte s.data.toList c.toNat.toUInt8)) ∧ w = w' := by
  have h := ix_indexByteString_run s c
  generalize Lib.indexByte s.data.toList c.toNat.toUInt8 = r at *
  go_enter Tryz.func55, Tryz.ntmps55
  go_wp2_with fail
  go_ret
  exact ⟨rfl, rfl⟩
theorem ix_index_one (s : ByteArray) (c : UInt8) (w : World) :
    Calls Tryz.prog 129 #[.string s, .string ⟨#[c]⟩] w fun e w' => e = .returned (.int .i64 (Lib.indexByte s.data.toList c)) ∧ w = w' := by
  by_cases h : s.data.toList = [c]
  · have hs : s = ⟨#[c]⟩ := by
      obtain ⟨d⟩ := s
      have : d = #[c] := by apply Array.ext'; simpa using h
      rw [this]
    subst hs
    have e : Lib.indexByte (⟨#[c]⟩ : ByteArray).data.toList c = 0 := by rw [h]; simp [Lib.indexByte]
    rw [e]
    go_enter Tryz.func129, Tryz.ntmps129
    go_wp2_with fail
    go_ret
    exact ⟨rfl, rfl⟩
  · have hb : ([c] == s.toList) = false := by
      rw [beq_eq_false_iff_ne, ByteArray.toList_eq]; exact fun e => h e.symm
    have H := Lib.hid (fun w => ix_slIndexByte_any s (c.toNat : Int) w)
    rw [show ((c.toNat : Int)).toNat.toUInt8 = c by simp] at H
    clear h
    go_enter Tryz.func129, Tryz.ntmps129
    go_wp2_with fail
    refine (H.out _).mono ?_; rintro e w1 ⟨rfl, rfl⟩
    go_wp2_with fail
    go_ret
    exact ⟨rfl, rfl⟩
theorem ix_sindex (s : ByteArray) (c : UInt8) (w : World) :
    Calls Tryz.prog 120 #[.string s, .string ⟨#[c]⟩] w fun e w' => e = .returned (.int .i64 (Lib.indexByte s.data.toList c)) ∧ w = w' := by
  have H := Lib.hid (fun w => ix_index_one s c w)
  generalize Lib.indexByte s.data.toList c = r at *
  go_enter Tryz.func120, Tryz.ntmps120
  go_wp2_with fail
  refine (H.out _).mono ?_; rintro e w1 ⟨rfl, rfl⟩
  go_wp2_with fail
  go_ret
  exact ⟨rfl, rfl⟩
theorem ix_contains (s : ByteArray) (c : UInt8) (w : World) :
    Calls Tryz.prog 102 #[.string s, .string ⟨#[c]⟩] w fun e w' => e = .returned (.bool (s.data.toList.contains c)) ∧ w = w' := by
  have H := fun w => ix_sindex s c w
  rcases ib_cases c s.data.toList with ⟨g1, n, g2⟩ | ⟨g1, g2⟩
  all_goals
    rw [g1]
    rw [g2] at H
    have HI := Lib.hid H
    clear H g1 g2
    go_enter Tryz.func102, Tryz.ntmps102
    go_wp2_with fail
    refine (HI.out _).mono ?_; rintro e w1 ⟨rfl, rfl⟩
    go_wp2_with fail
    go_ret
    first | exact ⟨rfl, rfl⟩ | exact ⟨ret_b (decide_eq_true (p := (0 : Int) ≤ n) (by omega)), rfl⟩
end Go.Proofs.YtbejhdhhkpllfaaGreatDoor
namespace Go.Proofs.YtbejhdhhkpllfaaGreatDoor
open Go.RowKit
theorem dw_all (p : UInt8 → Bool) : ∀ l : List UInt8, (l.dropWhile p).isEmpty = l.all p
  | [] => rfl
  | a :: l => by
    rw [List.dropWhile_cons, List.all_cons]
    cases p a with
    | true => simpa using dw_all p l
    | false => rfl
theorem dw_all2 (p : UInt8 → Bool) : ∀ l : List UInt8, (l.dropWhile p).all p = l.all p
  | [] => rfl
  | a :: l => by
    rw [List.dropWhile_cons, List.all_cons]
    cases h : p a with
    | true => simpa using dw_all2 p l
    | false => simp [h]
theorem trimS_all (l cs : List UInt8) : (Lib.trimS l cs).isEmpty = l.all (cs.contains ·) := by
  unfold Lib.trimS Lib.trimLeftS Lib.trimRightS
  rw [dw_all, List.all_reverse, dw_all2, List.all_reverse]
theorem nameC_ascii (c : UInt8) (h : nameC c = true) : c.toNat < 128 := by
  unfold nameC at h
  rw [decide_eq_true_eq] at h
  omega
theorem crune_any (c : UInt8) (h : nameC c = true) (w : World) :
    Calls Tryz.prog 105 #[.string ⟨#[95, 97, 98, 99, 100, 101, 102, 103, 104, 105, 106, 107, 108, 109, 110, 111, 112, 113, 114, 115, 116, 117, 118, 119, 120, 121, 122, 65, 66, 67, 68, 69, 70, 71, 72, 73, 74, 75, 76, 77, 78, 79, 80, 81, 82, 83, 84, 85, 86, 87, 88, 89, 90, 48, 49, 50, 51, 52, 53, 54, 55, 56, 57]⟩, .int .i32 (c.toNat : Int)] w fun e w' => e = .returned (.bool true) ∧ w = w' := by
  have ha := nameC_ascii c h
  refine (Tryz.strings_ContainsRune_ascii ⟨#[95, 97, 98, 99, 100, 101, 102, 103, 104, 105, 106, 107, 108, 109, 110, 111, 112, 113, 114, 115, 116, 117, 118, 119, 120, 121, 122, 65, 66, 67, 68, 69, 70, 71, 72, 73, 74, 75, 76, 77, 78, 79, 80, 81, 82, 83, 84, 85, 86, 87, 88, 89, 90, 48, 49, 50, 51, 52, 53, 54, 55, 56, 57]⟩ (c.toNat : Int) w (by omega) (by omega)).mono ?_
  rintro e w' ⟨h1, h2⟩
  refine ⟨?_, h2.symm⟩
  rw [h1, show ((c.toNat : Int)).toNat.toUInt8 = c by simp]
  rcases ib_cases c nameMs with ⟨g1, k, g2⟩ | ⟨g1, g2⟩
  · have : Lib.indexByte (⟨#[95, 97, 98, 99, 100, 101, 102, 103, 104, 105, 106, 107, 108, 109, 110, 111, 112, 113, 114, 115, 116, 117, 118, 119, 120, 121, 122, 65, 66, 67, 68, 69, 70, 71, 72, 73, 74, 75, 76, 77, 78, 79, 80, 81, 82, 83, 84, 85, 86, 87, 88, 89, 90, 48, 49, 50, 51, 52, 53, 54, 55, 56, 57]⟩ : ByteArray).data.toList c = k := g2
    rw [this]
    simp
  · rw [name_ms, h] at g1; cases g1
set_option maxRecDepth 100000 in
theorem nclo_any (c : UInt8) (h : nameC c = true) (w : World) :
    Calls Tryz.prog 104 #[.int .i32 (c.toNat : Int)] w fun e w' => e = .returned (.bool false) ∧ w = w' := by
  have H := Lib.hid (fun w => crune_any c h w)
  clear h
  generalize (c.toNat : Int) = n at *
  go_enter Tryz.func104, Tryz.ntmps104
  go_wp2_with fail
  refine (H.out _).mono ?_; rintro e w1 ⟨rfl, rfl⟩
  go_wp2_with fail
  go_ret
  exact ⟨rfl, rfl⟩
set_option maxRecDepth 100000 in
theorem nindex_any (s : ByteArray) (h : s.data.toList.all nameC = true) (hs : s.size ≤ 1000000) (w : World) :
    Calls Tryz.prog 130 #[.string s, .func (.func 104) #[] #[], .bool true] w fun e w' => e = .returned (.int .i64 (-1)) ∧ Below w.heap.size w w' := by
  have HA : Hid (∀ (k : Nat) (hk : k < s.size), nameC s[k] = true) := Lib.hid fun k hk => List.all_eq_true.1 h s[k] (by rw [show s[k] = s.data.toList[k]'(by rw [len_z]; exact hk) from by simp; rfl]; exact List.getElem_mem _)
  clear h
  go_enter Tryz.func130, Tryz.ntmps130
  go_wp2_with fail
  go_loopg [8] s.size (fun g v wr => ∃ k : Nat, g + k = s.size ∧ wr = w.iter s k) 
  case atStart => exact ⟨0, by omega, rfl⟩
  case round =>
    obtain ⟨k, hk, rfl⟩ := hrel
    by_cases hlt : k < s.size
    · have n0 := fun ty => run_next_ascii (P := Tryz.prog) w s k ty hlt (nameC_ascii _ (HA.out k hlt))
      have H := Lib.hid (fun w => nclo_any s[k] (HA.out k hlt) w)
      obtain ⟨g, rfl⟩ : ∃ g, gk = g + 1 := ⟨gk - 1, by omega⟩
      generalize (s[k].toNat : Int) = n at *
      go_wp2_with fail
      refine (H.out _).mono ?_; rintro e w1 ⟨rfl, rfl⟩
      clear n0
      go_wp2_with fail
      go_roundg g
      case measure => omega
      case rel => exact ⟨k + 1, by omega, rfl⟩
    · have n0 := fun ty => run_next_end (P := Tryz.prog) w s k ty hlt
      go_wp2_with fail
      go_ret
      refine ⟨rfl, ?_⟩
      unfold World.iter
      exact (Below.refl _ _).alloc (Nat.le_refl _) _
set_option maxRecDepth 100000 in
theorem ncontains_any (s : ByteArray) (h : s.data.toList.all nameC = true) (hs : s.size ≤ 1000000) (w : World) :
    Calls Tryz.prog 103 #[.string s, .func (.func 104) #[] #[]] w fun e w' => e = .returned (.bool false) ∧ Below w.heap.size w w' := by
  have H := Lib.hid (fun w => nindex_any s h hs w)
  clear h
  have HI : Hid (∀ w, Calls Tryz.prog 121 #[.string s, .func (.func 104) #[] #[]] w fun e w' => e = .returned (.int .i64 (-1)) ∧ Below w.heap.size w w') := Lib.hid fun w => by
    go_enter Tryz.func121, Tryz.ntmps121
    go_wp2_with fail
    refine (H.out _).mono ?_; rintro e w1 ⟨rfl, hb⟩
    go_wp2_with fail
    go_ret
    exact ⟨rfl, hb⟩
  go_enter Tryz.func103, Tryz.ntmps103
  go_wp2_with fail
  refine (HI.out _).mono ?_; rintro e w1 ⟨rfl, hb⟩
  go_wp2_with fail
  go_ret
  exact ⟨rfl, hb⟩
theorem cname_no (s : ByteArray) (h1 : s.toList = []) (h2 : s.toList.isEmpty = true) (w : World) :
    Calls Tryz.prog 92 #[.string s] w fun e w' => e = .returned (.bool false) ∧ Below w.heap.size w w' := by
  go_enter Tryz.func92, Tryz.ntmps92
  go_wp2_with fail
  go_ret
  exact ⟨rfl, Below.refl _ _⟩
theorem cname_trim (s : ByteArray) (hs : s.size ≤ 1000000) (w : World) :
    Calls Tryz.prog 101 #[.string s, .string ⟨#[95, 97, 98, 99, 100, 101, 102, 103, 104, 105, 106, 107, 108, 109, 110, 111, 112, 113, 114, 115, 116, 117, 118, 119, 120, 121, 122, 65, 66, 67, 68, 69, 70, 71, 72, 73, 74, 75, 76, 77, 78, 79, 80, 81, 82, 83, 84, 85, 86, 87, 88, 89, 90, 48, 49, 50, 51, 52, 53, 54, 55, 56, 57]⟩] w fun e w' => e = .returned (.string ⟨(Lib.trimS s.data.toList nameMs).toArray⟩) ∧ Below w.heap.size w w' :=
  Any.strings_Trim_laid Tryz.lays160 (by kernel_rfl) s ⟨#[95, 97, 98, 99, 100, 101, 102, 103, 104, 105, 106, 107, 108, 109, 110, 111, 112, 113, 114, 115, 116, 117, 118, 119, 120, 121, 122, 65, 66, 67, 68, 69, 70, 71, 72, 73, 74, 75, 76, 77, 78, 79, 80, 81, 82, 83, 84, 85, 86, 87, 88, 89, 90, 48, 49, 50, 51, 52, 53, 54, 55, 56, 57]⟩ w (by omega) (by decide) (ascii_of_all (by decide))
set_option maxRecDepth 100000 in
theorem cname_out (s t : ByteArray) (h1 : ¬ s.toList = []) (h2 : s.toList.isEmpty = false) (H : Hid (∀ w, Calls Tryz.prog 101 #[.string s, .string ⟨#[95, 97, 98, 99, 100, 101, 102, 103, 104, 105, 106, 107, 108, 109, 110, 111, 112, 113, 114, 115, 116, 117, 118, 119, 120, 121, 122, 65, 66, 67, 68, 69, 70, 71, 72, 73, 74, 75, 76, 77, 78, 79, 80, 81, 82, 83, 84, 85, 86, 87, 88, 89, 90, 48, 49, 50, 51, 52, 53, 54, 55, 56, 57]⟩] w fun e w' => e = .returned (.string t) ∧ Below w.heap.size w w'))
    (h3 : ¬ t.toList = []) (h4 : t.toList.isEmpty = false) (w : World) :
    Calls Tryz.prog 92 #[.string s] w fun e w' => e = .returned (.bool false) ∧ Below w.heap.size w w' := by
  go_enter Tryz.func92, Tryz.ntmps92
  go_wp2_with fail
  refine (H.out _).mono ?_; rintro e w1 ⟨rfl, hb⟩
  go_wp2_with fail
  go_ret
  exact ⟨rfl, hb⟩
set_option maxRecDepth 100000 in
theorem cname_in (s : ByteArray) (d : Bool) (hsz : 0 < s.size) (h1 : ¬ s.toList = []) (h2 : s.toList.isEmpty = false) (H : Hid (∀ w, Calls Tryz.prog 101 #[.string s, .string ⟨#[95, 97, 98, 99, 100, 101, 102, 103, 104, 105, 106, 107, 108, 109, 110, 111, 112, 113, 114, 115, 116, 117, 118, 119, 120, 121, 122, 65, 66, 67, 68, 69, 70, 71, 72, 73, 74, 75, 76, 77, 78, 79, 80, 81, 82, 83, 84, 85, 86, 87, 88, 89, 90, 48, 49, 50, 51, 52, 53, 54, 55, 56, 57]⟩] w fun e w' => e = .returned (.string ⟨#[]⟩) ∧ Below w.heap.size w w'))
    (HC : Hid (∀ w, Calls Tryz.prog 102 #[.string ⟨#[48, 49, 50, 51, 52, 53, 54, 55, 56, 57]⟩, .string (s.extract 0 1)] w fun e w' => e = .returned (.bool d) ∧ w = w'))
    (HF : Hid (∀ w, Calls Tryz.prog 103 #[.string s, .func (.func 104) #[] #[]] w fun e w' => e = .returned (.bool false) ∧ Below w.heap.size w w')) (w : World) :
    Calls Tryz.prog 92 #[.string s] w fun e w' => e = .returned (.bool !d) ∧ Below w.heap.size w w' := by
  cases d with
  | true =>
    go_enter Tryz.func92, Tryz.ntmps92
    go_wp2_with fail
    refine (H.out _).mono ?_; rintro e w1 ⟨rfl, hb⟩
    go_wp2_with fail
    refine (HC.out _).mono ?_; rintro e w2 ⟨rfl, rfl⟩
    go_wp2_with fail
    go_ret
    exact ⟨rfl, hb⟩
  | false =>
    go_enter Tryz.func92, Tryz.ntmps92
    go_wp2_with fail
    refine (H.out _).mono ?_; rintro e w1 ⟨rfl, hb⟩
    have HB := Lib.hid hb
    have hz := hb.size
    clear hb
    go_wp2_with fail
    refine (HC.out _).mono ?_; rintro e w2 ⟨rfl, rfl⟩
    go_wp2_with fail
    refine (HF.out _).mono ?_; rintro e w3 ⟨rfl, hb⟩
    have HB2 := Lib.hid (HB.out.trans (hb.mono hz))
    clear hb
    go_wp2_with fail
    go_ret
    exact ⟨rfl, HB2.out⟩
theorem cname_any (s : ByteArray) (hs : s.size ≤ 1000000) (w : World) :
    Calls Tryz.prog 92 #[.string s] w fun e w' => e = .returned (.bool (nameB s.data.toList)) ∧ Below w.heap.size w w' := by
  rcases empty_z s with ⟨h0, h1, h2, h3⟩ | ⟨h0, h1, h2, h3⟩
  · have hd := head_z s h0
    have hT := trimS_all s.data.toList nameMs
    rw [show (nameMs.contains ·) = nameC from funext name_ms] at hT
    have hnb : nameB s.data.toList = (!isDig s[0] && s.data.toList.all nameC) := by rw [hd]; rfl
    cases hall : s.data.toList.all nameC with
    | false =>
      rw [hall] at hT
      rw [hnb, hall, Bool.and_false]
      refine cname_out s ⟨(Lib.trimS s.data.toList nameMs).toArray⟩ h1 h2 (Lib.hid fun w => cname_trim s hs w) ?_ ?_ w
      · rw [ByteArray.toList_eq]; intro e
        have : Lib.trimS s.data.toList nameMs = [] := by simpa using e
        rw [this] at hT; cases hT
      · rw [ByteArray.toList_eq]; simpa using hT
    | true =>
      rw [hall] at hT
      rw [hnb, hall, Bool.and_true]
      refine cname_in s (isDig s[0]) h0 h1 h2 (Lib.hid fun w => ?_) (Lib.hid fun w => ?_) (Lib.hid fun w => ncontains_any s hall hs w) w
      · have := cname_trim s hs w
        rw [List.isEmpty_iff.1 hT] at this
        exact this
      · have he : s.extract 0 1 = ⟨#[s[0]]⟩ := by
          have hx : (s.extract 0 1).data.toList = [s[0]] := by
            have := Lib.extract_data s 0 1
            rw [this, hd]; simp
          exact bytes_ext' hx
        rw [he]
        have := ix_contains ⟨#[48, 49, 50, 51, 52, 53, 54, 55, 56, 57]⟩ s[0] w
        rw [show (⟨#[48, 49, 50, 51, 52, 53, 54, 55, 56, 57]⟩ : ByteArray).data.toList = ([48, 49, 50, 51, 52, 53, 54, 55, 56, 57] : List UInt8) from rfl, dig_ms] at this
        exact this
  · rw [h3]
    exact cname_no s h1 h2 w
end Go.Proofs.YtbejhdhhkpllfaaGreatDoor
namespace Go.Proofs.YtbejhdhhkpllfaaGreatDoor
open Go.RowKit
def ctext (k : Nat) (x : List UInt8) : Bool := if k = 3 then textB x else if k = 4 then nameB x else if k = 5 then nameB x else x.isEmpty
def cnum (k : Nat) (n : Int) : Bool := if k = 1 then (n == 0 || n == 1) else if k = 2 then true else n == 0
def cnest (k : Nat) : Bool := k == 6 || k == 7
theorem nest_kind (c : Cel) : nestC c = cnest c.kind.toNat := by
  unfold nestC cnest
  have h6 : (c.kind == 6) = (c.kind.toNat == 6) := by
    rw [Bool.eq_iff_iff, beq_iff_eq, beq_iff_eq]
    exact ⟨fun h => by rw [h]; rfl, fun h => UInt8.toNat_inj.1 h⟩
  have h7 : (c.kind == 7) = (c.kind.toNat == 7) := by
    rw [Bool.eq_iff_iff, beq_iff_eq, beq_iff_eq]
    exact ⟨fun h => by rw [h]; rfl, fun h => UInt8.toNat_inj.1 h⟩
  rw [h6, h7]
theorem one_kind (c : Cel) : oneC c = (decide (c.kind.toNat ≤ 7) && (ctext c.kind.toNat c.text && cnum c.kind.toNat c.num && (if cnest c.kind.toNat then decide (0 ≤ c.many) else c.many == 0))) := by
  have key : ∀ k : Nat, (c.kind.toNat = k) ↔ c.kind = UInt8.ofNat k ∧ k < 256 := by
    intro k
    constructor
    · intro h
      have hlt := UInt8.toNat_lt c.kind
      refine ⟨UInt8.toNat_inj.1 ?_, by omega⟩
      rw [UInt8.toNat_ofNat', h]
      omega
    · rintro ⟨h, h2⟩
      rw [h, UInt8.toNat_ofNat']
      omega
  have big : 7 < c.kind.toNat → oneC c = false := by
    intro h
    unfold oneC
    have ne : ∀ k : UInt8, k.toNat ≤ 7 → c.kind ≠ k := fun k hk e => by rw [e] at h; omega
    rw [if_neg (ne 0 (by decide)), if_neg (ne 1 (by decide)), if_neg (ne 2 (by decide)), if_neg (ne 3 (by decide)), if_neg (by rintro (e | e); exact ne 4 (by decide) e; exact ne 5 (by decide) e), if_neg (by rintro (e | e); exact ne 6 (by decide) e; exact ne 7 (by decide) e)]
  by_cases hb : c.kind.toNat ≤ 7
  · rw [decide_eq_true hb, Bool.true_and]
    have h8 : c.kind.toNat = 0 ∨ c.kind.toNat = 1 ∨ c.kind.toNat = 2 ∨ c.kind.toNat = 3 ∨ c.kind.toNat = 4 ∨ c.kind.toNat = 5 ∨ c.kind.toNat = 6 ∨ c.kind.toNat = 7 := by omega
    unfold oneC ctext cnum cnest
    rcases h8 with h | h | h | h | h | h | h | h <;> (have hk := ((key _).1 h).1; rw [h, hk]; simp; try (cases c.text <;> cases (c.many == 0) <;> simp))
  · rw [decide_eq_false hb, Bool.false_and]
    exact big (by omega)
def tfun (k : Nat) : Nat := if k = 3 then 91 else if k = 4 then 92 else if k = 5 then 92 else 87
def nfun (k : Nat) : Nat := if k = 1 then 89 else if k = 2 then 90 else 88
def kindsA : Array Value := #[.func (.func 87) #[] #[], .func (.func 88) #[] #[], .bool false, .func (.func 87) #[] #[], .func (.func 89) #[] #[], .bool false, .func (.func 87) #[] #[], .func (.func 90) #[] #[], .bool false, .func (.func 91) #[] #[], .func (.func 88) #[] #[], .bool false, .func (.func 92) #[] #[], .func (.func 88) #[] #[], .bool false, .func (.func 92) #[] #[], .func (.func 88) #[] #[], .bool false, .func (.func 87) #[] #[], .func (.func 88) #[] #[], .bool true, .func (.func 87) #[] #[], .func (.func 88) #[] #[], .bool true]
theorem kindsA_get (k : Nat) (h : k ≤ 7) : kindsA[k * 3]? = some (.func (.func (tfun k)) #[] #[]) ∧ kindsA[k * 3 + 1]? = some (.func (.func (nfun k)) #[] #[]) ∧ kindsA[k * 3 + 2]? = some (.bool (cnest k)) := by
  have h8 : k = 0 ∨ k = 1 ∨ k = 2 ∨ k = 3 ∨ k = 4 ∨ k = 5 ∨ k = 6 ∨ k = 7 := by omega
  rcases h8 with rfl | rfl | rfl | rfl | rfl | rfl | rfl | rfl <;> exact ⟨rfl, rfl, rfl⟩
theorem ent_none : ∀ args w, (callFunc 87 args).run Tryz.prog w = .ok (.enter 87 args) w := enters_of Tryz.func87 (by kernel_rfl) rfl
theorem ent_zero : ∀ args w, (callFunc 88 args).run Tryz.prog w = .ok (.enter 88 args) w := enters_of Tryz.func88 (by kernel_rfl) rfl
theorem ent_name : ∀ args w, (callFunc 92 args).run Tryz.prog w = .ok (.enter 92 args) w := enters_of Tryz.func92 (by kernel_rfl) rfl
theorem ent_k1 : ∀ args w, (callFunc 89 args).run Tryz.prog w = .ok (.enter 89 args) w := enters_of Tryz.func89 (by kernel_rfl) rfl
theorem ent_k2 : ∀ args w, (callFunc 90 args).run Tryz.prog w = .ok (.enter 90 args) w := enters_of Tryz.func90 (by kernel_rfl) rfl
theorem ent_k3 : ∀ args w, (callFunc 91 args).run Tryz.prog w = .ok (.enter 91 args) w := enters_of Tryz.func91 (by kernel_rfl) rfl
theorem tfun_ent (k : Nat) : ∀ args w, (callFunc (tfun k) args).run Tryz.prog w = .ok (.enter (tfun k) args) w := by
  unfold tfun
  split
  · exact ent_k3
  · split
    · exact ent_name
    · split
      · exact ent_name
      · exact ent_none
theorem nfun_ent (k : Nat) : ∀ args w, (callFunc (nfun k) args).run Tryz.prog w = .ok (.enter (nfun k) args) w := by
  unfold nfun
  split
  · exact ent_k1
  · split
    · exact ent_k2
    · exact ent_zero
theorem none_any (s : ByteArray) (w : World) : Calls Tryz.prog 87 #[.string s] w fun e w' => e = .returned (.bool s.data.toList.isEmpty) ∧ Below w.heap.size w w' := by
  rcases empty_z s with ⟨h0, h1, h2, h3⟩ | ⟨h0, h1, h2, h3⟩
  · have : s.data.toList.isEmpty = false := by rw [← ByteArray.toList_eq]; exact h2
    rw [this]
    go_enter Tryz.func87, Tryz.ntmps87
    go_wp2_with fail
    go_ret
    exact ⟨rfl, Below.refl _ _⟩
  · have : s.data.toList.isEmpty = true := by rw [← ByteArray.toList_eq]; exact h2
    rw [this]
    go_enter Tryz.func87, Tryz.ntmps87
    go_wp2_with fail
    go_ret
    exact ⟨rfl, Below.refl _ _⟩
theorem zero_any (n : Int) (w : World) : Calls Tryz.prog 88 #[.int .i64 n] w fun e w' => e = .returned (.bool (n == 0)) ∧ Below w.heap.size w w' := by
  go_enter Tryz.func88, Tryz.ntmps88
  go_wp2_with fail
  go_ret
  exact ⟨rfl, Below.refl _ _⟩
theorem k1_any (n : Int) (w : World) : Calls Tryz.prog 89 #[.int .i64 n] w fun e w' => e = .returned (.bool (n == 0 || n == 1)) ∧ Below w.heap.size w w' := by
  by_cases h : n = 0
  · have h0 : (n == 0) = true := beq_iff_eq.2 h
    have hr : Hid ((n == 0 || n == 1) = true) := Lib.hid (by rw [h0]; rfl)
    clear h
    go_enter Tryz.func89, Tryz.ntmps89
    go_wp2_with fail
    go_ret
    exact ⟨ret_b hr.out.symm, Below.refl _ _⟩
  · have h0 : (n == 0) = false := beq_eq_false_iff_ne.2 h
    have hr : Hid ((n == 0 || n == 1) = (n == 1)) := Lib.hid (by rw [h0]; rfl)
    clear h
    go_enter Tryz.func89, Tryz.ntmps89
    go_wp2_with fail
    go_ret
    exact ⟨ret_b hr.out.symm, Below.refl _ _⟩
theorem k2_any (n : Int) (w : World) : Calls Tryz.prog 90 #[.int .i64 n] w fun e w' => e = .returned (.bool true) ∧ Below w.heap.size w w' := by
  go_enter Tryz.func90, Tryz.ntmps90
  go_wp2_with fail
  go_ret
  exact ⟨rfl, Below.refl _ _⟩
theorem chkE_text (l : List UInt8) : textB l = (chkE l == 0) := by
  unfold textB chkE
  by_cases q : 16384 < l.length
  · rw [if_pos q, decide_eq_false (by omega)]; rfl
  · rw [if_neg q, decide_eq_true (by omega), Bool.true_and]
    cases Lib.validD l <;> rfl
theorem chkE_cases (l : List UInt8) : chkE l = 0 ∨ chkE l = 4 ∨ chkE l = 10 := by
  unfold chkE
  by_cases q : 16384 < l.length
  · rw [if_pos q]; right; left; rfl
  · rw [if_neg q]
    cases Lib.validD l
    · right; right; rfl
    · left; rfl
theorem k3_any (s : ByteArray) (hs : s.size ≤ 1000000) (w : World) (hE : EnvU w) : Calls Tryz.prog 91 #[.string s] w fun e w' => e = .returned (.bool (textB s.data.toList)) ∧ Below w.heap.size w w' := by
  have H := Lib.hid (tcheck_any s hs w hE)
  rw [chkE_text]
  have hc := chkE_cases s.data.toList
  clear hE
  generalize chkE s.data.toList = c at *
  rcases hc with rfl | rfl | rfl
  all_goals
    go_enter Tryz.func91, Tryz.ntmps91
    go_wp2_with fail
    refine H.out.mono ?_; rintro e w1 ⟨rfl, hb⟩
    go_wp2_with fail
    go_ret
    exact ⟨rfl, hb⟩
theorem tfun_any (k : Nat) (s : ByteArray) (hs : s.size ≤ 1000000) (w : World) (hE : EnvU w) : Calls Tryz.prog (tfun k) #[.string s] w fun e w' => e = .returned (.bool (ctext k s.data.toList)) ∧ Below w.heap.size w w' := by
  unfold tfun ctext
  by_cases h3 : k = 3
  · rw [if_pos h3, if_pos h3]; exact k3_any s hs w hE
  rw [if_neg h3, if_neg h3]
  by_cases h4 : k = 4
  · rw [if_pos h4, if_pos h4]; exact cname_any s hs w
  rw [if_neg h4, if_neg h4]
  by_cases h5 : k = 5
  · rw [if_pos h5, if_pos h5]; exact cname_any s hs w
  rw [if_neg h5, if_neg h5]; exact none_any s w
theorem nfun_any (k : Nat) (n : Int) (w : World) : Calls Tryz.prog (nfun k) #[.int .i64 n] w fun e w' => e = .returned (.bool (cnum k n)) ∧ Below w.heap.size w w' := by
  unfold nfun cnum
  by_cases h1 : k = 1
  · rw [if_pos h1, if_pos h1]; exact k1_any n w
  rw [if_neg h1, if_neg h1]
  by_cases h2 : k = 2
  · rw [if_pos h2, if_pos h2]; exact k2_any n w
  rw [if_neg h2, if_neg h2]; exact zero_any n w
theorem kindsA_one : kindsA.all (·.oneCell') = true := by kernel_rfl
set_option maxRecDepth 100000 in
theorem kinds_any (w : World) : Calls Tryz.prog 82 #[] w fun e w' => e = .returned (.agg kindsA) ∧ Below w.heap.size w w' := by
  have hn : Hid (∀ O, (w.alloc O).heap[w.heap.size]? = some O) := Lib.hid (heap_alloc_new w)
  go_enter Tryz.func82, Tryz.ntmps82
  go_wp2_with (refine wpList_store_row rfl 124 _ _ rfl w.heap.size kindsA rfl rfl 124 #[.nilFunc, .nilFunc, .bool false, .nilFunc, .nilFunc, .bool false, .nilFunc, .nilFunc, .bool false, .nilFunc, .nilFunc, .bool false, .nilFunc, .nilFunc, .bool false, .nilFunc, .nilFunc, .bool false, .nilFunc, .nilFunc, .bool false, .nilFunc, .nilFunc, .bool false] (hn.out _) (by kernel_rfl) rfl kindsA_one ?_)
  refine bodyPost_ret (v := .agg kindsA) (results_cell_row rfl _ _ w.heap.size 124 kindsA (0, 0) _ rfl (setRow_heap _ _ _ kindsA _ _ (hn.out _)) Tryz.underlying124 rfl (by kernel_rfl)) rfl ⟨rfl, ?_⟩
  exact below_setRow ((Below.refl _ _).alloc (Nat.le_refl _) _) (Nat.le_refl _) _
end Go.Proofs.YtbejhdhhkpllfaaGreatDoor
namespace Go.Proofs.YtbejhdhhkpllfaaGreatDoor
open Go.RowKit
def letC (c : UInt8) : Bool := nameC c && !isDig c
theorem name_digR (c : UInt8) : nameC c = (letC c || isDig c) := by
  have := all256' (f := fun c => nameC c == (letC c || isDig c)) (by decide +kernel) c
  simpa using this
def nameAt (l : List UInt8) (k : Nat) : Bool := if k = 0 then nameB l else (l.drop k).all nameC
theorem nameAt_step (s : ByteArray) (k : Nat) (h : k < s.size) : nameAt s.data.toList k = ((letC s[k] || (!decide (k = 0) && isDig s[k])) && nameAt s.data.toList (k + 1)) := by
  have hd := drop_at s k h
  unfold nameAt
  by_cases hk : k = 0
  · subst hk
    rw [List.drop_zero] at hd
    rw [if_pos rfl, if_neg (by omega), decide_eq_true rfl, hd]
    show (!isDig s[0] && (s[0] :: _).all nameC) = _
    rw [List.all_cons, name_digR, List.drop_succ_cons, List.drop_zero]
    unfold letC
    cases nameC s[0] <;> cases isDig s[0] <;> simp
  · rw [if_neg hk, if_neg (by omega), hd, List.all_cons, decide_eq_false hk, name_digR]; rfl
theorem nameAt_end (s : ByteArray) : nameAt s.data.toList s.size = decide (0 < s.size) := by
  unfold nameAt
  by_cases h : s.size = 0
  · have : s.data.toList = [] := List.eq_nil_of_length_eq_zero (by rw [len_z]; exact h)
    rw [if_pos h, this, h]; rfl
  · rw [if_neg h, List.drop_of_length_le (by rw [len_z]; exact Nat.le_refl _), decide_eq_true (by omega)]; rfl
theorem nm_cls (c : UInt8) : (c.toNat < 48 ∧ letC c = false ∧ isDig c = false) ∨ (48 ≤ c.toNat ∧ c.toNat ≤ 57 ∧ letC c = false ∧ isDig c = true) ∨ (58 ≤ c.toNat ∧ c.toNat ≤ 64 ∧ letC c = false ∧ isDig c = false) ∨ (65 ≤ c.toNat ∧ c.toNat ≤ 90 ∧ letC c = true ∧ isDig c = false)
    ∨ (91 ≤ c.toNat ∧ c.toNat ≤ 96 ∧ c.toNat ≠ 95 ∧ letC c = false ∧ isDig c = false) ∨ (c.toNat = 95 ∧ letC c = true ∧ isDig c = false) ∨ (97 ≤ c.toNat ∧ c.toNat ≤ 122 ∧ letC c = true ∧ isDig c = false) ∨ (123 ≤ c.toNat ∧ letC c = false ∧ isDig c = false) := by
  have g := all256' (f := fun c => (decide (c.toNat < 48) && !letC c && !isDig c) || (decide (48 ≤ c.toNat) && decide (c.toNat ≤ 57) && !letC c && isDig c) || (decide (58 ≤ c.toNat) && decide (c.toNat ≤ 64) && !letC c && !isDig c) || (decide (65 ≤ c.toNat) && decide (c.toNat ≤ 90) && letC c && !isDig c)
    || (decide (91 ≤ c.toNat) && decide (c.toNat ≤ 96) && !(c.toNat == 95) && !letC c && !isDig c) || ((c.toNat == 95) && letC c && !isDig c) || (decide (97 ≤ c.toNat) && decide (c.toNat ≤ 122) && letC c && !isDig c) || (decide (123 ≤ c.toNat) && !letC c && !isDig c)) (by decide +kernel) c
  simp only [Bool.or_eq_true, Bool.and_eq_true, decide_eq_true_eq, Bool.not_eq_true', beq_iff_eq, beq_eq_false_iff_ne] at g
  rcases g with ((((((g | g) | g) | g) | g) | g) | g) | g
  · left; exact ⟨g.1.1, g.1.2, g.2⟩
  · right; left; exact ⟨g.1.1.1, g.1.1.2, g.1.2, g.2⟩
  · right; right; left; exact ⟨g.1.1.1, g.1.1.2, g.1.2, g.2⟩
  · right; right; right; left; exact ⟨g.1.1.1, g.1.1.2, g.1.2, g.2⟩
  · right; right; right; right; left; exact ⟨g.1.1.1.1, g.1.1.1.2, g.1.1.2, g.1.2, g.2⟩
  · right; right; right; right; right; left; exact ⟨g.1.1, g.1.2, g.2⟩
  · right; right; right; right; right; right; left; exact ⟨g.1.1.1, g.1.1.2, g.1.2, g.2⟩
  · right; right; right; right; right; right; right; exact ⟨g.1.1, g.1.2, g.2⟩
set_option maxRecDepth 100000 in
set_option maxHeartbeats 4000000 in
theorem rname_any (s : ByteArray) (hs : s.size ≤ 1000000) (w : World) :
    Calls Tryz.prog 44 #[.string s] w fun e w' => e = .returned (.bool (nameB s.data.toList)) ∧ w = w' := by
  obtain ⟨r, hr⟩ : ∃ r, nameB s.data.toList = r := ⟨_, rfl⟩
  have HR : Hid (nameAt s.data.toList 0 = r) := Lib.hid hr
  rw [hr]
  clear hr
  go_enter Tryz.func44, Tryz.ntmps44
  go_wp2_with fail
  go_loop [3] (fun i => ∃ k : Nat, k ≤ s.size ∧ i = .int .i64 k ∧ Hid (nameAt s.data.toList k = r)) (fun i => s.size - (intOf i).toNat)
  case atStart => exact ⟨0, Nat.zero_le _, rfl, HR⟩
  case round =>
    obtain ⟨k, hk, rfl, HK⟩ := hrel
    by_cases hlt : k < s.size
    · have hst := nameAt_step s k hlt
      rw [HK.out] at hst
      have hcls := nm_cls s[k]
      have hc8 : s[k].toNat < 256 := UInt8.toNat_lt _
      clear HK
      rcases hcls with ⟨a1, l1, d1⟩ | ⟨a1, a2, l1, d1⟩ | ⟨a1, a2, l1, d1⟩ | ⟨a1, a2, l1, d1⟩ | ⟨a1, a2, a3, l1, d1⟩ | ⟨a1, l1, d1⟩ | ⟨a1, a2, l1, d1⟩ | ⟨a1, l1, d1⟩
      all_goals rw [l1, d1] at hst; clear l1 d1
      · have HF : Hid (false = r) := Lib.hid (by rw [hst]; simp)
        have b1 : ((s[k].toNat : Int) == 95) = false := by rw [beq_eq_false_iff_ne]; omega
        have b2 : ¬ (97 : Int) ≤ s[k].toNat := by omega
        have b3 : ¬ (65 : Int) ≤ s[k].toNat := by omega
        have b4 : ¬ (48 : Int) ≤ s[k].toNat := by omega
        clear hst
        go_wp2_with fail
        go_ret
        exact ⟨ret_b HF.out, rfl⟩
      · have b1 : ((s[k].toNat : Int) == 95) = false := by rw [beq_eq_false_iff_ne]; omega
        have b2 : ¬ (97 : Int) ≤ s[k].toNat := by omega
        have b3 : ¬ (65 : Int) ≤ s[k].toNat := by omega
        by_cases hk0 : k = 0
        · have HF : Hid (false = r) := Lib.hid (by rw [hst, decide_eq_true hk0]; simp)
          subst hk0
          clear hst
          go_wp2_with fail
          go_ret
          exact ⟨ret_b HF.out, rfl⟩
        · have HK2 : Hid (nameAt s.data.toList (k + 1) = r) := Lib.hid (by rw [hst, decide_eq_false hk0]; simp)
          have hkb : ((k : Int) == 0) = false := by rw [beq_eq_false_iff_ne]; omega
          clear hst hk0
          go_wp2_with fail
          go_round
          case rel => exact ⟨k + 1, by omega, by go_num, HK2⟩
          case measure => simp [intOf]; omega
      · have HF : Hid (false = r) := Lib.hid (by rw [hst]; simp)
        have b1 : ((s[k].toNat : Int) == 95) = false := by rw [beq_eq_false_iff_ne]; omega
        have b2 : ¬ (97 : Int) ≤ s[k].toNat := by omega
        have b3 : ¬ (65 : Int) ≤ s[k].toNat := by omega
        have b4 : ¬ (s[k].toNat : Int) ≤ 57 := by omega
        clear hst
        go_wp2_with fail
        go_ret
        exact ⟨ret_b HF.out, rfl⟩
      · have HK2 : Hid (nameAt s.data.toList (k + 1) = r) := Lib.hid (by rw [hst]; simp)
        have b2 : ¬ (97 : Int) ≤ s[k].toNat := by omega
        have b3 : ¬ (s[k].toNat : Int) ≤ 57 := by omega
        clear hst
        go_wp2_with fail
        go_round
        case rel => exact ⟨k + 1, by omega, by go_num, HK2⟩
        case measure => simp [intOf]; omega
      · have HF : Hid (false = r) := Lib.hid (by rw [hst]; simp)
        have b1 : ((s[k].toNat : Int) == 95) = false := by rw [beq_eq_false_iff_ne]; omega
        have b2 : ¬ (97 : Int) ≤ s[k].toNat := by omega
        have b3 : ¬ (s[k].toNat : Int) ≤ 90 := by omega
        have b4 : ¬ (s[k].toNat : Int) ≤ 57 := by omega
        clear hst a3
        go_wp2_with fail
        go_ret
        exact ⟨ret_b HF.out, rfl⟩
      · have HK2 : Hid (nameAt s.data.toList (k + 1) = r) := Lib.hid (by rw [hst]; simp)
        have b1 : ((s[k].toNat : Int) == 95) = true := by rw [beq_iff_eq]; omega
        have b2 : ¬ (97 : Int) ≤ s[k].toNat := by omega
        have b3 : ¬ (s[k].toNat : Int) ≤ 90 := by omega
        have b4 : ¬ (s[k].toNat : Int) ≤ 57 := by omega
        clear hst a1
        go_wp2_with fail
        go_round
        case rel => exact ⟨k + 1, by omega, by go_num, HK2⟩
        case measure => simp [intOf]; omega
      · have HK2 : Hid (nameAt s.data.toList (k + 1) = r) := Lib.hid (by rw [hst]; simp)
        have b3 : ¬ (s[k].toNat : Int) ≤ 57 := by omega
        clear hst
        go_wp2_with fail
        go_round
        case rel => exact ⟨k + 1, by omega, by go_num, HK2⟩
        case measure => simp [intOf]; omega
      · have HF : Hid (false = r) := Lib.hid (by rw [hst]; simp)
        have b1 : ((s[k].toNat : Int) == 95) = false := by rw [beq_eq_false_iff_ne]; omega
        have b2 : ¬ (s[k].toNat : Int) ≤ 122 := by omega
        have b3 : ¬ (s[k].toNat : Int) ≤ 90 := by omega
        have b4 : ¬ (s[k].toNat : Int) ≤ 57 := by omega
        clear hst
        go_wp2_with fail
        go_ret
        exact ⟨ret_b HF.out, rfl⟩
    · have HF : Hid (decide (0 < s.size) = r) := Lib.hid (by
        have := HK.out
        rw [show k = s.size by omega, nameAt_end] at this
        exact this)
      go_wp2_with fail
      go_ret
      refine ⟨ret_b (Eq.trans ?_ HF.out), rfl⟩
      simp
end Go.Proofs.YtbejhdhhkpllfaaGreatDoor
