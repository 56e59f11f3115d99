/- Walks and plain laws of this proof, joined from smaller texts (1). -/
import Derived.WalkKit
import Derived.Lib.ParseIntBCases
import Derived.Lib.ItoaMem
import Derived.Lib.SlTrimSet
import Derived.WalkSpells
import Derived.Handy
import Derived.Lib.Hide
import Derived.Lib.IndexBytes
import Derived.Lib.ItoaLen
import Derived.Lib.ValidLaws
import Derived.Lib.UnsafeStr
import Derived.Lib.BufferRead
import Derived.Laws.IdiomStrings
import Derived.Laws.AppendOwn
import Derived.OwnWalk
import Derived.Laws.Rows
import Derived.Test.YtgaknbnhmoddcaaGreatDoorRows
import Derived.IntWalk
import Derived.LoopTactic
import Derived.Deep.LoopGhost
import Derived.Deep.QuietTactic
import Derived.BigQuiet
import Derived.Deep.RegionHeld3
import Derived.Outline
import Derived.Laws.EntriesVeiled
import Derived.Maps.AppendAt
import Derived.Laws.OwnMore
import Derived.Laws.AppendOwnNone
import Derived.Test.YtgaknbnhmoddcaaGreatDoorShelh
import Derived.Test.YtgaknbnhmoddcaaGreatDoorShelf
import Derived.Shelf.Strings.SlTrimAscii
import Derived.StillTailTactics
import Derived.Deep.Light
import Derived.Deep.RegionWith
import Derived.Deep.Draws
import Derived.Maps.OwnOps
import Derived.Maps.Views
import Derived.Maps.Keyed
import Derived.StringKeys
import Derived.Maps.OwnSet
import Derived.Laws.Cover3
import Derived.Maps.RangeWalk
set_option linter.unusedSimpArgs false
set_option linter.unusedVariables false
namespace Go.Proofs.YtgaknbnhmoddcaaGreatDoor
open Go.RowKit

/-- A number of 64 bits. -/
def R (n : Int) : Prop := -9223372036854775808 ≤ n ∧ n ≤ 9223372036854775807
/-- A number that may be, or 0. -/
def val (n : Int) : Int := if -9223372036854775808 ≤ n ∧ n ≤ 9223372036854775807 then n else 0
/-- The error's number. -/
def err (n : Int) : Int := if -9223372036854775808 ≤ n ∧ n ≤ 9223372036854775807 then 0 else 20
theorem val_in {n : Int} (h : R n) : val n = n := if_pos h
theorem err_in {n : Int} (h : R n) : err n = 0 := if_pos h
theorem val_out {n : Int} (h : ¬ R n) : val n = 0 := if_neg h
theorem err_out {n : Int} (h : ¬ R n) : err n = 20 := if_neg h
theorem ret2 {a b c d : Int} (h : a = c) (h' : b = d) : Ending.returned (.tuple #[.int .i64 a, .int .i64 b]) = .returned (.tuple #[.int .i64 c, .int .i64 d]) := by rw [h, h']
def far (n : Int) : Int := if n < 0 then -n else n
end Go.Proofs.YtgaknbnhmoddcaaGreatDoor
namespace Go.Proofs.YtgaknbnhmoddcaaGreatDoor
open Go.RowKit Go.Lib

def isDig (c : UInt8) : Bool := decide (48 ≤ c.toNat ∧ c.toNat ≤ 57)
/-- Are they digits, one at least? -/
def digitsB (l : List UInt8) : Bool := l.all isDig && !l.isEmpty
/-- A digit's value. -/
def dv (c : UInt8) : Nat := c.toNat - 48
/-- The number of digits. -/
def numFrom (a : Nat) (l : List UInt8) : Nat := l.foldl (fun a c => a * 10 + dv c) a
def num (l : List UInt8) : Nat := numFrom 0 l
/-- Is there a sign? -/
def below (l : List UInt8) : Bool := match l with | c :: _ => c == 45 | [] => false
/-- What stands behind the sign. -/
def body (l : List UInt8) : List UInt8 := if below l then l.tail else l
/-- Digits without a nought ahead. -/
def okDigits (l : List UInt8) : Bool := digitsB l && !(l.head? == some 48 && decide (1 < l.length))
def signed (l : List UInt8) : Int := if below l then -(num (body l) : Int) else num (body l)
def rdV (l : List UInt8) : Int := if okDigits (body l) then val (signed l) else 0
def rdE (l : List UInt8) : Int := if okDigits (body l) then err (signed l) else 21
theorem numFrom_cons (a : Nat) (c : UInt8) (r : List UInt8) : numFrom a (c :: r) = numFrom (a * 10 + dv c) r := by unfold numFrom; rw [List.foldl_cons]
theorem numFrom_nil (a : Nat) : numFrom a [] = a := by unfold numFrom; rw [List.foldl_nil]
theorem num_one (c : UInt8) : num [c] = dv c := by rw [num, numFrom_cons, numFrom_nil]; omega
theorem numFrom_ge : ∀ (l : List UInt8) (a : Nat), a ≤ numFrom a l
  | [], a => by rw [numFrom_nil]; exact Nat.le_refl a
  | c :: r, a => by rw [numFrom_cons]; exact Nat.le_trans (by omega) (numFrom_ge r (a * 10 + dv c))
theorem numFrom_append (l m : List UInt8) : ∀ a, numFrom a (l ++ m) = numFrom (numFrom a l) m := by
  induction l with
  | nil => intro a; rw [List.nil_append, numFrom_nil]
  | cons c r ih => intro a; rw [List.cons_append, numFrom_cons, numFrom_cons]; exact ih _
theorem num_snoc (l : List UInt8) (c : UInt8) : num (l ++ [c]) = num l * 10 + dv c := by
  unfold num; rw [numFrom_append, numFrom_cons, numFrom_nil]
theorem hasPrefix_dash (l : List UInt8) : Lib.hasPrefix l [45] = below l := by
  cases l with
  | nil => rfl
  | cons c r =>
    show ([45] : List UInt8).isPrefixOf (c :: r) = (c == 45)
    simp only [List.isPrefixOf, Bool.and_true]
    rw [Bool.eq_iff_iff]; simp only [beq_iff_eq]; exact eq_comm
theorem trimPrefix_dash (l : List UInt8) : Lib.trimPrefix l [45] = body l := by
  unfold Lib.trimPrefix body
  rw [hasPrefix_dash]
  cases l <;> rfl
theorem dig_iff (c : UInt8) : ([48, 49, 50, 51, 52, 53, 54, 55, 56, 57] : List UInt8).contains c = isDig c := by
  have h : ∀ n : Fin 256, ([48, 49, 50, 51, 52, 53, 54, 55, 56, 57] : List UInt8).contains (UInt8.ofNat n.val) = isDig (UInt8.ofNat n.val) := by decide +kernel
  have := h ⟨c.toNat, c.toNat_lt⟩
  simpa using this
theorem dropWhile_all {p : UInt8 → Bool} {l : List UInt8} (h : l.all p = true) : l.dropWhile p = [] := by
  induction l with
  | nil => rfl
  | cons c r ih =>
    simp only [List.all_cons, Bool.and_eq_true] at h
    rw [List.dropWhile_cons, if_pos h.1]; exact ih h.2
theorem all_of_dropWhile {p : UInt8 → Bool} {l : List UInt8} (h : l.dropWhile p = []) : l.all p = true := by
  induction l with
  | nil => rfl
  | cons c r ih =>
    rw [List.dropWhile_cons] at h
    split at h
    · rename_i hc
      simp only [List.all_cons, Bool.and_eq_true]
      exact ⟨hc, ih h⟩
    · cases h
theorem all_reverse (p : UInt8 → Bool) (l : List UInt8) : l.reverse.all p = l.all p := by simp
/-- 'strings.Trim(s, set) == ""': are all bytes in the set? -/
theorem trimS_nil (l cs : List UInt8) : Lib.trimS l cs = [] ↔ l.all (cs.contains ·) = true := by
  unfold Lib.trimS Lib.trimLeftS Lib.trimRightS
  constructor
  · intro h
    have h1 := all_of_dropWhile h
    rw [all_reverse] at h1
    -- what is left by the trimming from the right has a last byte outside the set, unless it is empty
    rw [← all_reverse]
    cases hd : (l.reverse.dropWhile (cs.contains ·)) with
    | nil => exact all_of_dropWhile hd
    | cons c r =>
      rw [hd] at h1
      have hc : ¬ cs.contains c = true := by
        have := List.head_dropWhile_not (p := (cs.contains ·)) (l := l.reverse) (by rw [hd]; simp)
        simp only [hd, List.head_cons] at this
        exact fun e => by rw [this] at e; cases e
      simp only [List.all_cons, Bool.and_eq_true] at h1
      exact absurd h1.1 hc
  · intro h
    rw [← all_reverse] at h
    rw [dropWhile_all h]; rfl
theorem trim_digits (l : List UInt8) : Lib.trimS l [48, 49, 50, 51, 52, 53, 54, 55, 56, 57] = [] ↔ l.all isDig = true := by
  rw [trimS_nil, show (([48, 49, 50, 51, 52, 53, 54, 55, 56, 57] : List UInt8).contains ·) = isDig from funext dig_iff]
theorem parseM_cons (M a : Nat) (c : UInt8) (r : List UInt8) (hc : 48 ≤ c.toNat ∧ c.toNat ≤ 57) : Lib.parseUintM M a (c :: r) =
    if 1844674407370955162 ≤ a then .range else if M < a * 10 + (c.toNat - 48) then .range else Lib.parseUintM M (a * 10 + (c.toNat - 48)) r := by
  simp only [Lib.parseUintM, hc, and_self, if_true]
theorem parse_digits (M : Nat) (hM : M ≤ 18446744073709551615) (l : List UInt8) : ∀ (a : Nat), l.all isDig = true → a ≤ M →
    Lib.parseUintM M a l = if numFrom a l ≤ M then .ok (numFrom a l) else .range := by
  induction l with
  | nil => intro a _ ha; rw [numFrom_nil, if_pos ha, Lib.parseUintM]
  | cons c r ih =>
    intro a h ha
    simp only [List.all_cons, Bool.and_eq_true] at h
    obtain ⟨hc, hr⟩ := h
    simp only [isDig, decide_eq_true_eq] at hc
    have hge := numFrom_ge r (a * 10 + dv c)
    rw [parseM_cons _ _ _ _ hc, numFrom_cons]
    rw [show c.toNat - 48 = dv c from rfl]
    by_cases h1 : 1844674407370955162 ≤ a
    · rw [if_pos h1, if_neg (by omega)]
    · rw [if_neg h1]
      by_cases h2 : M < a * 10 + dv c
      · rw [if_pos h2, if_neg (by omega)]
      · rw [if_neg h2]
        exact ih _ hr (by omega)
theorem most64 : 2 ^ 64 - 1 = 18446744073709551615 := by decide
theorem parse_ok (l : List UInt8) (h : digitsB l = true) (hn : num l ≤ 18446744073709551615) : Lib.parseUintB 64 l = .ok (num l) := by
  simp only [digitsB, Bool.and_eq_true, Bool.not_eq_true', List.isEmpty_eq_false_iff] at h
  unfold Lib.parseUintB
  rw [if_neg h.2, most64, parse_digits _ (Nat.le_refl _) l 0 h.1 (Nat.zero_le _), if_pos (show numFrom 0 l ≤ _ from hn)]; rfl
theorem parse_range (l : List UInt8) (h : digitsB l = true) (hn : ¬ num l ≤ 18446744073709551615) : Lib.parseUintB 64 l = .range := by
  simp only [digitsB, Bool.and_eq_true, Bool.not_eq_true', List.isEmpty_eq_false_iff] at h
  unfold Lib.parseUintB
  rw [if_neg h.2, most64, parse_digits _ (Nat.le_refl _) l 0 h.1 (Nat.zero_le _), if_neg (show ¬ numFrom 0 l ≤ _ from hn)]
theorem digit_nat {d : Nat} (h : d < 10) : (UInt8.ofNat (48 + d)).toNat = 48 + d := by
  rw [UInt8.toNat_ofNat']; omega
theorem dec_all (u : Nat) : (Lib.decDigits u).all isDig = true ∧ Lib.decDigits u ≠ [] ∧ num (Lib.decDigits u) = u := by
  induction u using Nat.strongRecOn with
  | _ u ih =>
    rw [Lib.decDigits]
    by_cases h : u < 10
    · rw [dif_pos h]
      refine ⟨?_, by simp, ?_⟩
      · simp only [List.all_cons, List.all_nil, isDig, digit_nat h, Bool.and_true, decide_eq_true_eq]; omega
      · rw [num_one, dv, digit_nat h]; omega
    · rw [dif_neg h]
      obtain ⟨h1, h2, h3⟩ := ih (u / 10) (by omega)
      refine ⟨?_, by simp, ?_⟩
      · rw [List.all_append, h1]
        simp only [List.all_cons, List.all_nil, isDig, digit_nat (Nat.mod_lt u (by decide : 10 > 0)), Bool.and_true, Bool.true_and, decide_eq_true_eq]; omega
      · rw [num_snoc, h3, dv, digit_nat (Nat.mod_lt u (by decide : 10 > 0))]; omega
theorem dec_head (u : Nat) (h : 0 < u) : (Lib.decDigits u).head? ≠ some 48 := by
  induction u using Nat.strongRecOn with
  | _ u ih =>
    rw [Lib.decDigits]
    by_cases hu : u < 10
    · rw [dif_pos hu]
      simp only [List.head?_cons, ne_eq, Option.some.injEq]
      intro e
      have := congrArg UInt8.toNat e
      rw [digit_nat hu] at this
      simp at this; omega
    · rw [dif_neg hu, List.head?_append]
      have h1 := ih (u / 10) (by omega) (by omega)
      have h2 := (dec_all (u / 10)).2.1
      cases hd : Lib.decDigits (u / 10) with
      | nil => exact absurd hd h2
      | cons c r => rw [hd] at h1; simpa using h1
theorem dec_ok (u : Nat) : okDigits (Lib.decDigits u) = true := by
  obtain ⟨h1, h2, _⟩ := dec_all u
  unfold okDigits digitsB
  rw [h1]
  have : (Lib.decDigits u).isEmpty = false := by simpa using h2
  rw [this]
  by_cases h : 0 < u
  · have := dec_head u h
    simp [this]
  · obtain rfl : u = 0 := by omega
    decide +kernel
theorem dec_notdash (u : Nat) : below (Lib.decDigits u) = false := by
  obtain ⟨h1, h2, _⟩ := dec_all u
  cases hd : Lib.decDigits u with
  | nil => rfl
  | cons c r =>
    rw [hd] at h1
    simp only [List.all_cons, Bool.and_eq_true, isDig, decide_eq_true_eq] at h1
    show (c == 45) = false
    rw [beq_eq_false_iff_ne]
    rintro rfl
    exact absurd h1.1.1 (by decide)
theorem read_itoa (n : Int) : okDigits (body (Lib.itoa n)) = true ∧ signed (Lib.itoa n) = n := by
  unfold Lib.itoa
  by_cases h : n < 0
  · rw [if_pos h]
    have hb : below (45 :: Lib.decDigits n.natAbs) = true := rfl
    have e : body (45 :: Lib.decDigits n.natAbs) = Lib.decDigits n.natAbs := by unfold body; rw [hb]; rfl
    refine ⟨by rw [e]; exact dec_ok _, ?_⟩
    unfold signed
    rw [hb, e, (dec_all _).2.2]
    simp only [if_true]; omega
  · rw [if_neg h]
    have hb := dec_notdash n.toNat
    have e : body (Lib.decDigits n.toNat) = Lib.decDigits n.toNat := by unfold body; rw [hb]; rfl
    refine ⟨by rw [e]; exact dec_ok _, ?_⟩
    unfold signed
    rw [hb, e, (dec_all _).2.2]
    simp only [Bool.false_eq_true, if_false]; omega
theorem rdV_itoa (n : Int) (h : R n) : rdV (Lib.itoa n) = n := by
  obtain ⟨h1, h2⟩ := read_itoa n
  unfold rdV; rw [if_pos h1, h2, val_in h]
theorem rdE_itoa (n : Int) (h : R n) : rdE (Lib.itoa n) = 0 := by
  obtain ⟨h1, h2⟩ := read_itoa n
  unfold rdE; rw [if_pos h1, h2, err_in h]
end Go.Proofs.YtgaknbnhmoddcaaGreatDoor
namespace Go.Proofs.YtgaknbnhmoddcaaGreatDoor
open Go.RowKit
theorem len_itoa {n : Int} (h : R n) : (Lib.itoa n).length ≤ 21 := Lib.itoa_length_le n h.1 h.2
/-- So far: the number of the first digits, by its sign. -/
def part (b : Bool) (l : List UInt8) (k : Nat) : Int := if b then -(num (l.take k) : Int) else num (l.take k)
theorem head_zero (s : ByteArray) (h : 0 < s.size) : (s.data.toList.head? == some 48) = ((s[0].toNat : Int) == 48) := by
  have e : s.data.toList.head? = some s[0] := by
    rw [List.head?_eq_getElem?, List.getElem?_eq_getElem (by simpa using h)]; rfl
  rw [e, Bool.eq_iff_iff]
  simp only [beq_iff_eq, Option.some.injEq]
  constructor
  · intro q; rw [q]; rfl
  · intro q; exact UInt8.toNat_inj.1 (by have : (48 : UInt8).toNat = 48 := rfl; omega)
theorem ok_size (s : ByteArray) (h : digitsB s.data.toList = true) (hp : 0 < s.size) (hz : (s[0].toNat : Int) = 48 → s.size ≤ 1) : okDigits s.data.toList = true := by
  unfold okDigits
  rw [h, head_zero s hp]
  by_cases h0 : (s[0].toNat : Int) = 48
  · have := hz h0
    have hl : decide (1 < s.data.toList.length) = false := by rw [Array.length_toList]; exact decide_eq_false (by change ¬ 1 < s.size; omega)
    rw [hl]; simp
  · have : ((s[0].toNat : Int) == 48) = false := by simpa using h0
    rw [this]; rfl
theorem not_ok_zero (s : ByteArray) (hp : 0 < s.size) (hz : (s[0].toNat : Int) = 48) (h1 : 1 < s.size) : okDigits s.data.toList = false := by
  unfold okDigits
  rw [head_zero s hp, hz]
  have hl : decide (1 < s.data.toList.length) = true := by rw [Array.length_toList]; exact decide_eq_true h1
  rw [hl]; simp
theorem not_ok_dig (l : List UInt8) (h : digitsB l = false) : okDigits l = false := by unfold okDigits; rw [h]; rfl
end Go.Proofs.YtgaknbnhmoddcaaGreatDoor
namespace Go.Proofs.YtgaknbnhmoddcaaGreatDoor
open Go.Lib
def isPt (n : Nat) : Bool := decide (n ≤ 1114111 ∧ (n < 55296 ∨ 57343 < n))
def encN (n : Nat) : List UInt8 :=
  if n < 128 then [UInt8.ofNat n] else if n < 2048 then [UInt8.ofNat (192 + n / 64), UInt8.ofNat (128 + n % 64)]
  else if n < 65536 then [UInt8.ofNat (224 + n / 4096), UInt8.ofNat (128 + n / 64 % 64), UInt8.ofNat (128 + n % 64)]
  else [UInt8.ofNat (240 + n / 262144), UInt8.ofNat (128 + n / 4096 % 64), UInt8.ofNat (128 + n / 64 % 64), UInt8.ofNat (128 + n % 64)]
/-- What the bytes of one code point would tell. -/
def numN : List UInt8 → Nat
  | [a] => a.toNat
  | [a, b] => 64 * (a.toNat % 32) + b.toNat % 64
  | [a, b, c] => 64 * (64 * (a.toNat % 16) + b.toNat % 64) + c.toNat % 64
  | [a, b, c, d] => 64 * (64 * (64 * (a.toNat % 8) + b.toNat % 64) + c.toNat % 64) + d.toNat % 64
  | _ => 0
def oneB (l : List UInt8) (k : Nat) : Bool := decide (k ≤ l.length) && (isPt (numN (l.take k)) && encN (numN (l.take k)) == l.take k)
theorem ofN (n : Nat) (h : n < 256) : (UInt8.ofNat n).toNat = n := by rw [UInt8.toNat_ofNat']; omega
theorem toN {x : UInt8} {n : Nat} (h : x.toNat = n) : UInt8.ofNat n = x := by rw [← h, UInt8.ofNat_toNat]
theorem enc_len (n : Nat) (h : isPt n = true) : (encN n).length = if n < 128 then 1 else if n < 2048 then 2 else if n < 65536 then 3 else 4 := by
  unfold encN; repeat' split
  all_goals first | rfl | omega
/-- The bytes of a code point are decoded as it. -/
theorem decode_enc (n : Nat) (h : isPt n = true) (t : List UInt8) : decodeL (encN n ++ t) = (n, (encN n).length) := by
  simp only [isPt, decide_eq_true_eq] at h
  rw [decodeL_N]
  unfold encN
  by_cases h1 : n < 128
  · rw [if_pos h1]
    simp only [List.cons_append, List.nil_append, List.getD_cons_zero, List.length_cons, List.length_nil]
    rw [ofN n (by omega)]
    unfold decodeN
    rw [if_pos h1]
  · rw [if_neg h1]
    by_cases h2 : n < 2048
    · rw [if_pos h2]
      simp only [List.cons_append, List.nil_append, List.getD_cons_zero, List.getD_cons_succ, List.length_cons, List.length_nil]
      rw [ofN _ (by omega), ofN _ (by omega)]
      unfold decodeN
      rw [if_neg (by omega), if_pos (by omega), if_pos (by omega)]
      exact Prod.ext (by show _ = n; omega) rfl
    · rw [if_neg h2]
      by_cases h3 : n < 65536
      · rw [if_pos h3]
        simp only [List.cons_append, List.nil_append, List.getD_cons_zero, List.getD_cons_succ, List.length_cons, List.length_nil]
        rw [ofN _ (by omega), ofN _ (by omega), ofN _ (by omega)]
        unfold decodeN
        rw [if_neg (by omega), if_neg (by omega), if_pos (by omega), if_pos (by omega)]
        exact Prod.ext (by show _ = n; omega) rfl
      · rw [if_neg h3]
        simp only [List.cons_append, List.nil_append, List.getD_cons_zero, List.getD_cons_succ, List.length_cons, List.length_nil]
        rw [ofN _ (by omega), ofN _ (by omega), ofN _ (by omega), ofN _ (by omega)]
        unfold decodeN
        rw [if_neg (by omega), if_neg (by omega), if_neg (by omega), if_pos (by omega), if_pos (by omega)]
        exact Prod.ext (by show _ = n; omega) rfl
theorem decode_one (l : List UInt8) (k : Nat) (h : oneB l k = true) : decodeL l = (numN (l.take k), k) := by
  simp only [oneB, Bool.and_eq_true, decide_eq_true_eq, beq_iff_eq] at h
  obtain ⟨h1, h2, h3⟩ := h
  have e : l = encN (numN (l.take k)) ++ l.drop k := by rw [h3, List.take_append_drop]
  have := decode_enc (numN (l.take k)) h2 (l.drop k)
  rw [← e, h3] at this
  rw [this, List.length_take, Nat.min_eq_left h1]
/-- What is decoded well is one code point's bytes. -/
theorem one_decode (l : List UInt8) (hne : l ≠ []) (hv : ¬ ((decodeL l).1 = 65533 ∧ (decodeL l).2 = 1)) : oneB l (decodeL l).2 = true ∧ numN (l.take (decodeL l).2) = (decodeL l).1 ∧ 1 ≤ (decodeL l).2 ∧ (decodeL l).2 ≤ 4 := by
  have hl : 0 < l.length := List.length_pos_iff.2 hne
  rw [decodeL_N] at hv ⊢
  have k0 := (l.getD 0 0).toNat_lt
  have k1 := (l.getD 1 0).toNat_lt
  have k2 := (l.getD 2 0).toNat_lt
  have k3 := (l.getD 3 0).toNat_lt
  rcases decodeN_shape l.length (l.getD 0 0).toNat (l.getD 1 0).toNat (l.getD 2 0).toNat (l.getD 3 0).toNat with ⟨c, e⟩ | ⟨c1, c2, c3, cv, e⟩ | ⟨c1, c2, c3, c4, cv, cs, e⟩ | ⟨c1, c2, c3, c4, c5, cv, cw, e⟩ | e
  · rw [e]
    dsimp only
    have hn : numN (l.take 1) = (l.getD 0 0).toNat := by rw [takeA l hl]; rfl
    refine ⟨?_, hn, by omega, by omega⟩
    unfold oneB
    rw [hn, takeA l hl, decide_eq_true (by omega)]
    simp only [Bool.true_and, Bool.and_eq_true, beq_iff_eq]
    refine ⟨by simp only [isPt, decide_eq_true_eq]; omega, ?_⟩
    unfold encN
    rw [if_pos c, toN rfl]
  · rw [e]
    dsimp only
    have hn : numN (l.take 2) = (l.getD 0 0).toNat % 32 * 64 + (l.getD 1 0).toNat % 64 := by rw [takeB l c2]; simp only [numN]; omega
    refine ⟨?_, hn, by omega, by omega⟩
    unfold oneB
    rw [hn, takeB l c2, decide_eq_true (by omega)]
    simp only [Bool.true_and, Bool.and_eq_true, beq_iff_eq]
    refine ⟨by simp only [isPt, decide_eq_true_eq]; omega, ?_⟩
    unfold encN
    rw [if_neg (by omega), if_pos (by omega), toN (x := l.getD 0 0) (by omega), toN (x := l.getD 1 0) (by omega)]
  · rw [e]
    dsimp only
    have hn : numN (l.take 3) = (l.getD 0 0).toNat % 16 * 4096 + (l.getD 1 0).toNat % 64 * 64 + (l.getD 2 0).toNat % 64 := by rw [takeC l c2]; simp only [numN]; omega
    refine ⟨?_, hn, by omega, by omega⟩
    unfold oneB
    rw [hn, takeC l c2, decide_eq_true (by omega)]
    simp only [Bool.true_and, Bool.and_eq_true, beq_iff_eq]
    refine ⟨by simp only [isPt, decide_eq_true_eq]; omega, ?_⟩
    unfold encN
    rw [if_neg (by omega), if_neg (by omega), if_pos (by omega), toN (x := l.getD 0 0) (by omega), toN (x := l.getD 1 0) (by omega), toN (x := l.getD 2 0) (by omega)]
  · rw [e]
    dsimp only
    have hn : numN (l.take 4) = (l.getD 0 0).toNat % 8 * 262144 + (l.getD 1 0).toNat % 64 * 4096 + (l.getD 2 0).toNat % 64 * 64 + (l.getD 3 0).toNat % 64 := by rw [takeD l c2]; simp only [numN]; omega
    refine ⟨?_, hn, by omega, by omega⟩
    unfold oneB
    rw [hn, takeD l c2, decide_eq_true (by omega)]
    simp only [Bool.true_and, Bool.and_eq_true, beq_iff_eq]
    refine ⟨by simp only [isPt, decide_eq_true_eq]; omega, ?_⟩
    unfold encN
    rw [if_neg (by omega), if_neg (by omega), if_neg (by omega), toN (x := l.getD 0 0) (by omega), toN (x := l.getD 1 0) (by omega), toN (x := l.getD 2 0) (by omega), toN (x := l.getD 3 0) (by omega)]
  · rw [e] at hv
    exact absurd ⟨rfl, rfl⟩ hv
/-- Is the first code point well? -/
def wellB (l : List UInt8) : Bool := !decide ((decodeL l).1 = 65533 ∧ (decodeL l).2 = 1)
/-- A text's code points: how the document reads it. -/
theorem valid_step (l : List UInt8) (hne : l ≠ []) : validD l = (wellB l && validD (l.drop (decodeL l).2)) := by
  rw [validD_step l hne]
  unfold wellB
  by_cases h : (decodeL l).1 = 65533 ∧ (decodeL l).2 = 1
  · rw [if_pos h, decide_eq_true h]; rfl
  · rw [if_neg h, decide_eq_false h]; rfl
end Go.Proofs.YtgaknbnhmoddcaaGreatDoor
namespace Go.Proofs.YtgaknbnhmoddcaaGreatDoor
open Go.Lib
def nameC (c : UInt8) : Bool := decide ((97 ≤ c.toNat ∧ c.toNat ≤ 122) ∨ (65 ≤ c.toNat ∧ c.toNat ≤ 90) ∨ c.toNat = 95 ∨ (48 ≤ c.toNat ∧ c.toNat ≤ 57))
/-- Is a text a name? -/
def nameB : List UInt8 → Bool
  | [] => false
  | c :: r => !isDig c && (c :: r).all nameC
def marksL : List UInt8 := [33, 36, 38, 40, 41, 58, 61, 64, 91, 93, 123, 124, 125]
def markB (l : List UInt8) : Bool := l == [46, 46, 46] || (match l with | [c] => marksL.contains c | _ => false)
def textB (l : List UInt8) : Bool := decide (l.length ≤ 16384) && validD l
/-- A token: its kind, its text, where it stood. -/
structure Tok where
  kind : UInt8
  text : List UInt8
  pos : Int
/-- May a token be? -/
def okT (t : Tok) : Bool :=
  if t.kind = 0 then t.text.isEmpty else if t.kind = 1 then nameB t.text else if t.kind = 2 then okDigits (body t.text) else if t.kind = 3 then textB t.text else if t.kind = 4 then markB t.text else false
def hexD (n : Nat) : UInt8 := if n < 10 then UInt8.ofNat (48 + n) else UInt8.ofNat (87 + n)
def quoteC (c : UInt8) : List UInt8 :=
  if c = 34 ∨ c = 92 then [92, c] else if c = 8 then [92, 98] else if c = 9 then [92, 116] else if c = 10 then [92, 110] else if c = 12 then [92, 102] else if c = 13 then [92, 114]
  else if c.toNat < 32 then [92, 117, 48, 48, hexD (c.toNat / 16), hexD (c.toNat % 16)] else [c]
/-- A text, quoted. -/
def quoteL (l : List UInt8) : List UInt8 := [34] ++ l.flatMap quoteC ++ [34]
def tellT (t : Tok) : List UInt8 := if t.kind = 3 then quoteL t.text else t.text
end Go.Proofs.YtgaknbnhmoddcaaGreatDoor
namespace Go.Proofs.YtgaknbnhmoddcaaGreatDoor
open Go.Lib
structure Cel where
  kind : UInt8
  name : List UInt8
  text : List UInt8
  num : Int
  many : Int
/-- May a cell be, but for its name, and for what stands in it? -/
def oneC (c : Cel) : Bool :=
  if c.kind = 0 then c.text.isEmpty && c.num == 0 && c.many == 0
  else if c.kind = 1 then c.text.isEmpty && (c.num == 0 || c.num == 1) && c.many == 0
  else if c.kind = 2 then c.text.isEmpty && c.many == 0
  else if c.kind = 3 then textB c.text && c.num == 0 && c.many == 0
  else if c.kind = 4 ∨ c.kind = 5 then nameB c.text && c.num == 0 && c.many == 0
  else if c.kind = 6 ∨ c.kind = 7 then c.text.isEmpty && c.num == 0 && decide (0 ≤ c.many)
  else false
def nestC (c : Cel) : Bool := c.kind == 6 || c.kind == 7
def amongB (l : List (List UInt8)) (n : List UInt8) : Bool := l.any fun x => x == n
/-- May an item, a member, have that name, behind those that have been? -/
def okN (isL : Bool) (names : List (List UInt8)) (n : List UInt8) : Bool := if isL then n.isEmpty else !n.isEmpty && textB n && !amongB names n
/-- How many cells so many items, members, have. -/
def kidsN (val : List Cel → Option Nat) (isL : Bool) : Nat → List (List UInt8) → List Cel → Option Nat
  | 0, _, _ => some 0
  | _ + 1, _, [] => none
  | n + 1, names, c :: r =>
    if okN isL names c.name then
      match val (c :: r) with
      | none => none
      | some k => (kidsN val isL n (c.name :: names) ((c :: r).drop k)).map (k + ·)
    else none
def headN (kids : Cel → List Cel → Option Nat) : List Cel → Option Nat
  | [] => none
  | c :: r => if oneC c then (if nestC c then (kids c r).map (1 + ·) else some 1) else none
/-- How many cells the value has that begins a list, at most so many in each other. -/
def valN : Nat → List Cel → Option Nat
  | 0 => headN fun _ _ => none
  | d + 1 => headN fun c r => kidsN (valN d) (c.kind == 6) c.many.toNat [] r
theorem kidsN_le (val : List Cel → Option Nat) (hv : ∀ l k, val l = some k → 1 ≤ k ∧ k ≤ l.length) (isL : Bool) : ∀ (n : Nat) (names : List (List UInt8)) (l : List Cel) (k : Nat), kidsN val isL n names l = some k → n ≤ k ∧ k ≤ l.length
  | 0, names, l, k, h => by
    have : k = 0 := (Option.some.inj h).symm
    omega
  | n + 1, names, [], k, h => by cases h
  | n + 1, names, c :: r, k, h => by
    rw [kidsN] at h
    split at h
    · split at h
      · cases h
      · rename_i k1 hk1
        obtain ⟨g1, g2⟩ := hv _ _ hk1
        rw [Option.map_eq_some_iff] at h
        obtain ⟨k2, hk2, rfl⟩ := h
        have := kidsN_le val hv isL n _ _ k2 hk2
        rw [List.length_drop] at this
        omega
    · cases h
theorem headN_cons (kids : Cel → List Cel → Option Nat) (c : Cel) (r : List Cel) : headN kids (c :: r) = if oneC c then (if nestC c then (kids c r).map (1 + ·) else some 1) else none := rfl
theorem valN_zero (l : List Cel) : valN 0 l = headN (fun _ _ => none) l := rfl
theorem valN_more (d : Nat) (l : List Cel) : valN (d + 1) l = headN (fun c r => kidsN (valN d) (c.kind == 6) c.many.toNat [] r) l := rfl
theorem headN_le (kids : Cel → List Cel → Option Nat) (hk : ∀ c r k, kids c r = some k → k ≤ r.length) (l : List Cel) (k : Nat) (h : headN kids l = some k) : 1 ≤ k ∧ k ≤ l.length := by
  cases l with
  | nil => cases h
  | cons c r =>
    rw [headN_cons] at h
    rw [List.length_cons]
    cases h1 : oneC c with
    | false => rw [h1] at h; cases h
    | true =>
      cases h2 : nestC c with
      | false =>
        rw [h1, h2] at h
        have : k = 1 := (Option.some.inj h).symm
        omega
      | true =>
        rw [h1, h2, if_pos rfl, if_pos rfl, Option.map_eq_some_iff] at h
        obtain ⟨k2, hk2, rfl⟩ := h
        have := hk _ _ _ hk2
        omega
theorem valN_le : ∀ (d : Nat) (l : List Cel) (k : Nat), valN d l = some k → 1 ≤ k ∧ k ≤ l.length
  | 0, l, k, h => headN_le _ (fun c r k h => by cases h) l k h
  | d + 1, l, k, h => headN_le _ (fun c r k h => (kidsN_le (valN d) (valN_le d) _ _ _ _ _ h).2) l k h
/-- More may be in each other: the same cells. -/
theorem kidsN_mono (f g : List Cel → Option Nat) (hfg : ∀ l k, f l = some k → g l = some k) (isL : Bool) : ∀ (n : Nat) (names : List (List UInt8)) (l : List Cel) (k : Nat), kidsN f isL n names l = some k → kidsN g isL n names l = some k
  | 0, names, l, k, h => h
  | n + 1, names, [], k, h => h
  | n + 1, names, c :: r, k, h => by
    rw [kidsN] at h ⊢
    split at h
    · rename_i hok
      rw [if_pos hok]
      split at h
      · cases h
      · rename_i k1 hk1
        rw [hfg _ _ hk1]
        rw [Option.map_eq_some_iff] at h
        obtain ⟨k2, hk2, rfl⟩ := h
        show (kidsN g isL n _ _).map _ = _
        rw [kidsN_mono f g hfg isL n _ _ k2 hk2]; rfl
    · cases h
theorem headN_mono (f g : Cel → List Cel → Option Nat) (hfg : ∀ c r k, f c r = some k → g c r = some k) (l : List Cel) (k : Nat) (h : headN f l = some k) : headN g l = some k := by
  cases l with
  | nil => cases h
  | cons c r =>
    rw [headN_cons] at h ⊢
    cases h1 : oneC c with
    | false => rw [h1] at h; cases h
    | true =>
      cases h2 : nestC c with
      | false => rw [h1, h2] at h; exact h
      | true =>
        rw [h1, h2, if_pos rfl, if_pos rfl, Option.map_eq_some_iff] at h
        obtain ⟨k2, hk2, rfl⟩ := h
        rw [if_pos rfl, if_pos rfl, hfg _ _ _ hk2]; rfl
theorem valN_succ : ∀ (d : Nat) (l : List Cel) (k : Nat), valN d l = some k → valN (d + 1) l = some k
  | 0, l, k, h => headN_mono _ _ (fun c r k h => by cases h) l k h
  | d + 1, l, k, h => headN_mono _ _ (fun c r k h => kidsN_mono (valN d) (valN (d + 1)) (valN_succ d) _ _ _ _ _ h) l k h
theorem valN_mono {d e : Nat} (h : d ≤ e) (l : List Cel) (k : Nat) (hv : valN d l = some k) : valN e l = some k := by
  induction h with
  | refl => exact hv
  | step _ ih => exact valN_succ _ _ _ ih
/-- Are cells a value? -/
def mayB (V : List Cel) : Bool := decide (0 < V.length) && decide (V.length ≤ 2048) && (V.headD ⟨0, [0], [], 0, 0⟩).name.isEmpty && (valN 16 V == some V.length)
/-- Where the value ends that begins at a place; below 0: there is none. -/
def endI (V : List Cel) (at_ d : Nat) : Int := match valN d (V.drop at_) with | none => -1 | some k => ((at_ + k : Nat) : Int)
end Go.Proofs.YtgaknbnhmoddcaaGreatDoor
namespace Go.Proofs.YtgaknbnhmoddcaaGreatDoor
open Go.RowKit
theorem u8_info : (Tryz.prog.info? 5).map (fun i => (i.zero, i.size, i.bytes)) = some (some (.int .u8 0), 1, 1) := by kernel_rfl
/-- A slice of bytes of the call's own, from a block on, that reads as a list. -/
def Own (B : Nat) (v : Value) (l : List UInt8) (W : World) : Prop := W.ownsRow B 5 1 v l.length (Lib.byteCells l)
theorem Own.nil (B : Nat) (W : World) : Own B (.slice none 0 0) [] W := World.ownsRow_nil W B 5 1
theorem Own.below {B : Nat} {v : Value} {l : List UInt8} {w w' : World} (h : Own B v l w) (hb : Below w.heap.size w w') : Own B v l w' := by
  obtain ⟨h1, h2⟩ := h
  refine ⟨h1, ?_⟩
  rcases h2 with h2 | ⟨g, cap, cur, hv, hB, hg, hrest⟩
  · exact Or.inl h2
  · have hlt : g < w.heap.size := (Array.getElem?_eq_some_iff.1 hg).1
    exact Or.inr ⟨g, cap, cur, hv, hB, (hb.block g hlt).trans hg, hrest⟩
theorem Own.alloc {B : Nat} {v : Value} {l : List UInt8} {w : World} (h : Own B v l w) (o : Obj) : Own B v l (w.alloc o) := World.ownsRow.alloc h o
theorem Own.drew {B : Nat} {v : Value} {l : List UInt8} {w : World} (h : Own B v l w) : Own B v l w.drew := h
theorem Own.lt {B : Nat} {v : Value} {l : List UInt8} {w : World} (h : Own B v l w) : ∀ k, v.ownBlock = some k → B ≤ k := fun k hk => (World.ownsRow.lt h k hk).1
/-- A slice of bytes that was just laid. -/
theorem Own.fresh {l : List UInt8} {C : Array Value} {k : Nat} (hk : k = l.length) (hC : C.toList = Lib.byteCells l) (hl : l.length ≤ 1000000000) (W : World) : Own W.heap.size (.slice (some ⟨W.heap.size, 0, none⟩) k k) l (W.alloc (.cells C 5)) := by
  have hs : C.size = l.length := by
    have := congrArg List.length hC
    simpa [Lib.byteCells] using this
  refine ⟨by simp [Lib.byteCells], Or.inr ⟨W.heap.size, k, C, by rw [hk], Nat.le_refl _, heap_alloc_new W _, by omega, by unfold maxLen; omega, by omega, ?_⟩⟩
  rw [List.take_of_length_le (by simp; omega)]
  exact hC
/-- 'append(v, x..)' of bytes that stand in a row. -/
theorem wpList_push {ops : Array Oper} {rest : List Oper} {o : Oper} {a : Act} {Q : Exit → Act → World → Prop} {w : World} (hgd : o.guard = none) (s x : Operand)
    (ho : o.op = .call { callee := .builtin .append, args := #[s, x], argTypes := #[23, 23] }) (B : Nat) (v : Value) (l : List UInt8) (hs : a.eval s = v) (hown : Own B v l w)
    (ad : Addr) (c : Nat) (news : List UInt8) (hx : a.eval x = .slice (some ad) news.length c) (hnew : ∀ j (h : j < news.length), w.cell? (ad.add j) = some (.int .u8 (news[j].toNat : Int))) (hlen : l.length + news.length ≤ 1000000000) (hB : B ≤ w.heap.size)
    (h : ∀ v' w', Own B v' (l ++ news) w' → w.grownBy w' v.ownBlock → wpList Tryz.prog ops Q rest (a.put o.dst v') w') : wpList Tryz.prog ops Q (o :: rest) a w := by
  obtain ⟨i0, hi, hz0, hz1, hz2⟩ := info_parts u8_info
  refine wpList_append_own w hgd s x 23 ho B 5 i0 (.int .u8 0) 1 1 Tryz.underlying23 hi hz0 hz1 hz2 rfl (by decide) v l.length (Lib.byteCells l) hs hown ad news.length c (Lib.byteCells news) hx (by simp [Lib.byteCells]) ?_ ?_ (by unfold maxLen; omega) (by omega) hB ?_
  · intro j u hj
    have hl : j < news.length := by
      have := (List.getElem?_eq_some_iff.1 hj).1
      simpa [Lib.byteCells] using this
    rw [hnew j hl]
    unfold Lib.byteCells at hj
    rw [List.getElem?_map, List.getElem?_eq_getElem hl] at hj
    exact hj
  · intro u hu
    unfold Lib.byteCells at hu
    obtain ⟨b, _, rfl⟩ := List.mem_map.1 hu
    rfl
  · intro v' w' h1 h2 _
    refine h v' w' ?_ h2
    unfold Own Lib.byteCells at *
    rw [List.length_append, List.map_append]
    exact h1
theorem run_convert_own {B : Nat} {v : Value} {l : List UInt8} {w : World} (h : Own B v l w) : (convert 23 9 v).run Tryz.prog w = .ok (.string ⟨l.toArray⟩) w := by
  obtain ⟨h1, h2⟩ := h
  rcases h2 with ⟨rfl, h2⟩ | ⟨g, cap, cur, rfl, hB, hg, hn, hc, hcs, ht⟩
  · have : l = [] := List.eq_nil_of_length_eq_zero h2
    subst this
    exact Lib.run_convert_nil_bytes w 23 9 5 0 Tryz.underlying23 Tryz.underlying5 Tryz.underlying9
  · exact Go.run_convert_bytes_back w 23 9 5 ⟨g, 0, none⟩ cap l Tryz.underlying23 Tryz.underlying5 Tryz.underlying9 (Lib.bytes_of_row hg (by rw [Nat.mul_one] at ht; exact ht))
end Go.Proofs.YtgaknbnhmoddcaaGreatDoor
namespace Go.Proofs.YtgaknbnhmoddcaaGreatDoor
open Go.RowKit
theorem ret_i {a c : Int} (h : a = c) : Ending.returned (.int .i64 a) = .returned (.int .i64 c) := by rw [h]
theorem below_dN {B : Nat} {w w1 : World} (n : Nat) (h : Below B w w1) : Below B w (w1.drewN n) := h.trans ⟨rfl, rfl, rfl, Nat.le_refl _, fun _ _ => rfl⟩
theorem lt_of_cell {W : World} {b o : Nat} {v : Value} (h : W.cell? ⟨b, o, none⟩ = some v) : b < W.heap.size := by
  rcases Nat.lt_or_ge b W.heap.size with h' | h'
  · exact h'
  · exfalso
    have : W.heap[b]? = none := Array.getElem?_eq_none h'
    simp [World.cell?, this] at h
theorem heap_lt {b : Nat} {W : World} {o : Obj} (h : W.heap[b]? = some o) : b < W.heap.size := (Array.getElem?_eq_some_iff.1 h).1
theorem heap_old {b : Nat} {W : World} {o o' : Obj} (h : W.heap[b]? = some o) : (W.alloc o').heap[b]? = some o := by
  rw [Below.heap_alloc _ _ _ (Array.getElem?_eq_some_iff.1 h).1]; exact h
theorem heap_new (W : World) (o : Obj) (b : Nat) (hb : b = W.heap.size) : (W.alloc o).heap[b]? = some o := by rw [hb]; exact heap_alloc_new W o
/-- A cell's five values. -/
def celCells (c : Cel) : Array Value := #[.int .u8 (c.kind.toNat : Int), .string ⟨c.name.toArray⟩, .string ⟨c.text.toArray⟩, .int .i64 c.num, .int .i64 c.many]
/-- Cells that stand in a row from a place of a block on. -/
def CelRow (b off : Nat) (V : List Cel) (W : World) : Prop := ∀ (k : Nat) (h : k < V.length), W.cell? ⟨b, off + k * 5, none⟩ = some (.int .u8 (V[k].kind.toNat : Int)) ∧ W.cell? ⟨b, off + k * 5 + 1, none⟩ = some (.string ⟨V[k].name.toArray⟩) ∧ W.cell? ⟨b, off + k * 5 + 2, none⟩ = some (.string ⟨V[k].text.toArray⟩) ∧ W.cell? ⟨b, off + k * 5 + 3, none⟩ = some (.int .i64 V[k].num) ∧ W.cell? ⟨b, off + k * 5 + 4, none⟩ = some (.int .i64 V[k].many)
theorem CelRow.below {b off : Nat} {V : List Cel} {w w' : World} {B : Nat} (h : CelRow b off V w) (hb : Below B w w') (hlt : b < B) : CelRow b off V w' := by
  intro k hk
  obtain ⟨h0, h1, h2, h3, h4⟩ := h k hk
  exact ⟨(hb.cell (p := ⟨b, _, none⟩) hlt).trans h0, (hb.cell (p := ⟨b, _, none⟩) hlt).trans h1, (hb.cell (p := ⟨b, _, none⟩) hlt).trans h2, (hb.cell (p := ⟨b, _, none⟩) hlt).trans h3, (hb.cell (p := ⟨b, _, none⟩) hlt).trans h4⟩
theorem CelRow.below' {b off : Nat} {V : List Cel} {w w' : World} (h : CelRow b off V w) (hb : Below w.heap.size w w') : CelRow b off V w' := by
  intro k hk
  exact h.below hb (lt_of_cell (h k hk).1) k hk
theorem CelRow.lt {b off : Nat} {V : List Cel} {w : World} (h : CelRow b off V w) (hV : 0 < V.length) : b < w.heap.size := lt_of_cell (h 0 hV).1
/-- A slice that reads as cells. -/
def CelSl (v : Value) (V : List Cel) (W : World) : Prop := (∃ a cap, v = .slice a 0 cap ∧ V = [] ∧ (a = none → cap = 0)) ∨ ∃ b off cap, v = .slice (some ⟨b, off, none⟩) V.length cap ∧ CelRow b off V W ∧ 0 < V.length
theorem CelSl.below {v : Value} {V : List Cel} {w w' : World} (h : CelSl v V w) (hb : Below w.heap.size w w') : CelSl v V w' := by
  rcases h with h | ⟨b, off, cap, h1, h2, h3⟩
  · exact Or.inl h
  · exact Or.inr ⟨b, off, cap, h1, h2.below' hb, h3⟩
/-- Cells that a statement goes through. -/
def SmallV (V : List Cel) : Prop := V.length ≤ 100000 ∧ ∀ c ∈ V, c.name.length ≤ 100000 ∧ c.text.length ≤ 100000 ∧ R c.num ∧ R c.many
end Go.Proofs.YtgaknbnhmoddcaaGreatDoor
namespace Go.Proofs.YtgaknbnhmoddcaaGreatDoor
open Go.Lib
def blankJ (c : UInt8) : Bool := c == 32 || c == 9 || c == 13 || c == 10
def blJ (l : List UInt8) : List UInt8 := l.dropWhile blankJ
/-- A text that has to stand next: what stands behind it. -/
def tkJ (what l : List UInt8) : Option (List UInt8) := if what.isPrefixOf l then some (l.drop what.length) else none
/-- Behind a part of a number that has digits. -/
def partJ (mark sign : UInt8 → Bool) : List UInt8 → Option (List UInt8)
  | [] => none
  | c :: r => if mark c then
      (let r1 := if (r.head?.map sign).getD false then r.tail else r
       if (r1.takeWhile isDig).isEmpty then none else some (r1.dropWhile isDig)) else none
/-- The digits ahead of a point. -/
def wholeJ (l : List UInt8) : List UInt8 := if l.head? == some 48 then [48] else l.takeWhile isDig
def pointJ : List UInt8 → Option (List UInt8) := partJ (fun c => c == 46) (fun _ => false)
def powerJ : List UInt8 → Option (List UInt8) := partJ (fun c => c == 101 || c == 69) (fun c => c == 43 || c == 45)
def numJ (l : List UInt8) : Except Int (Int × List UInt8) :=
  let d := wholeJ (body l)
  if d.isEmpty then .error 40 else
  let l2 := (body l).drop d.length
  let l3 := (pointJ l2).getD l2
  let l4 := (powerJ l3).getD l3
  let t := (if below l then [45] else []) ++ d
  if (pointJ l2).isSome || (powerJ l3).isSome || rdE t != 0 then .error 41 else .ok (rdV t, l4)
def hexJ (c : UInt8) : Option Nat :=
  if 48 ≤ c.toNat ∧ c.toNat ≤ 57 then some (c.toNat - 48) else if 97 ≤ c.toNat ∧ c.toNat ≤ 102 then some (c.toNat - 87)
  else if 65 ≤ c.toNat ∧ c.toNat ≤ 70 then some (c.toNat - 55) else none
/-- So many digits to the base of 16, behind a number. -/
def hexsJ : Nat → Nat → List UInt8 → Option (Nat × List UInt8)
  | 0, n, l => some (n, l)
  | _ + 1, _, [] => none
  | k + 1, n, c :: r => match hexJ c with
    | none => none
    | some d => hexsJ k (n * 16 + d) r
/-- What the letters behind a backslash tell that tell one byte. -/
def letJ (c : UInt8) : Option Nat :=
  if c = 34 then some 34 else if c = 92 then some 92 else if c = 47 then some 47 else if c = 98 then some 8 else if c = 102 then some 12
  else if c = 110 then some 10 else if c = 114 then some 13 else if c = 116 then some 9 else none
/-- Behind a high half: the low one. -/
def lowJ (n : Nat) (l : List UInt8) : Option (Nat × List UInt8) := match tkJ [92, 117] l with
  | none => none
  | some r => match hexsJ 4 0 r with
    | none => none
    | some (m, t) => if m < 56320 ∨ 57343 < m then none else some (65536 + (n - 55296) * 1024 + (m - 56320), t)
def escJ : List UInt8 → Option (Nat × List UInt8)
  | [] => none
  | c :: r => match letJ c with
    | some p => some (p, r)
    | none => if c ≠ 117 then none else match hexsJ 4 0 r with
      | none => none
      | some (n, t) => if 56320 ≤ n ∧ n ≤ 57343 then none else if 55296 ≤ n ∧ n ≤ 56319 then lowJ n t else some (n, t)
/-- Behind the first quote: the code points, and what stands behind the last quote. -/
def strGo : Nat → List UInt8 → Option (List Nat × List UInt8)
  | 0, _ => none
  | _ + 1, [] => none
  | f + 1, c :: r => if c = 34 then some ([], r) else if c.toNat < 32 then none
    else if c = 92 then (match escJ r with
      | none => none
      | some (p, t) => (strGo f t).map fun x => (p :: x.1, x.2))
    else (strGo f ((c :: r).drop (decodeL (c :: r)).2)).map fun x => ((decodeL (c :: r)).1 :: x.1, x.2)
def strJ (l : List UInt8) : Option (List UInt8 × List UInt8) := match tkJ [34] l with
  | none => none
  | some r => (strGo r.length r).map fun x => (x.1.flatMap encN, x.2)
/-- A member's name and the colon: the name, what stands behind. -/
def memJ (nm : List (List UInt8)) (l : List UInt8) : Except Int (List UInt8 × List UInt8) := match strJ l with
  | none => .error 40
  | some (s, t) => if nm.contains s then .error 42 else if s.isEmpty then .error 8 else match tkJ [58] (blJ t) with
    | none => .error 40
    | some r => .ok (s, r)
/-- The items, the members, until the bracket: how many, what stands behind it, the cells. -/
def itemsJ (val : List UInt8 → List UInt8 → List Cel → Except Int (List UInt8 × List Cel)) (isO : Bool) : Nat → Nat → List (List UInt8) → List UInt8 → List Cel → Except Int (Nat × List UInt8 × List Cel)
  | 0, _, _, _, _ => .error 40
  | f + 1, n, nm, l, out => match tkJ [if isO then 125 else 93] l with
    | some r => .ok (n, r, out)
    | none => match (if n = 0 then some l else (tkJ [44] l).map blJ) with
      | none => .error 40
      | some l1 => match (if isO then memJ nm l1 else .ok ([], l1)) with
        | .error e => .error e
        | .ok (s, l2) => match val s l2 out with
          | .error e => .error e
          | .ok (l3, out2) => itemsJ val isO f (n + 1) (if isO then s :: nm else nm) (blJ l3) out2
def begJ (c : UInt8) : Bool := c == 123 || c == 91 || c == 34 || c == 116 || c == 102 || c == 110 || c == 45 || isDig c
def manyAt (k n : Nat) (out : List Cel) : List Cel := out.modify k fun c => { c with many := (n : Int) }
/-- A value that has nothing under it. -/
def leafJ (name : List UInt8) (c : UInt8) (l : List UInt8) (out : List Cel) : Except Int (List UInt8 × List Cel) :=
  if c = 34 then (match strJ l with | none => .error 40 | some (s, t) => .ok (t, out ++ [⟨3, name, s, 0, 0⟩]))
  else if c = 116 then (match tkJ [116, 114, 117, 101] l with | none => .error 40 | some t => .ok (t, out ++ [⟨1, name, [], 1, 0⟩]))
  else if c = 102 then (match tkJ [102, 97, 108, 115, 101] l with | none => .error 40 | some t => .ok (t, out ++ [⟨1, name, [], 0, 0⟩]))
  else if c = 110 then (match tkJ [110, 117, 108, 108] l with | none => .error 40 | some t => .ok (t, out ++ [⟨0, name, [], 0, 0⟩]))
  else (match numJ l with | .error e => .error e | .ok (n, t) => .ok (t, out ++ [⟨2, name, [], n, 0⟩]))
/-- A value: so many brackets more may be opened. -/
def valJ : Nat → List UInt8 → List UInt8 → List Cel → Except Int (List UInt8 × List Cel)
  | d, name, l, out => match blJ l with
    | [] => .error 40
    | c :: r => if !begJ c then .error 40 else if out.length = 2048 then .error 4 else
      if c = 123 ∨ c = 91 then (match d with
        | 0 => .error 30
        | d + 1 => match itemsJ (valJ d) (c == 123) (r.length + 1) 0 [] (blJ r) (out ++ [⟨if c = 123 then 7 else 6, name, [], 0, 0⟩]) with
          | .error e => .error e
          | .ok (n, t, out2) => .ok (t, manyAt out.length n out2))
      else leafJ name c (c :: r) out
/-- What json.Read tells of bytes that are a text. -/
def readJ (l : List UInt8) : Except Int (List Cel) := match valJ 16 [] l [] with
  | .error e => .error e
  | .ok (t, out) => if (blJ t).isEmpty then .ok out else .error 40
end Go.Proofs.YtgaknbnhmoddcaaGreatDoor
namespace Go.Proofs.YtgaknbnhmoddcaaGreatDoor
open Go.RowKit
theorem ret_b {a c : Bool} (h : a = c) : Ending.returned (.bool a) = .returned (.bool c) := by rw [h]
theorem drop_at (s : ByteArray) (k : Nat) (h : k < s.size) : s.data.toList.drop k = s[k] :: s.data.toList.drop (k + 1) := by
  rw [List.drop_eq_getElem_cons (by rw [Array.length_toList]; exact h)]; rfl
end Go.Proofs.YtgaknbnhmoddcaaGreatDoor
namespace Go.Proofs.YtgaknbnhmoddcaaGreatDoor
open Go.RowKit
/-- All older blocks but one stay. -/
def RK (r : Nat) (W W' : World) : Prop := Below r W W' ∧ ∀ (k : Nat) (o : Obj), W.heap[k]? = some o → k ≠ r → W'.heap[k]? = some o
theorem RK.refl (r : Nat) (W : World) : RK r W W := ⟨Below.refl _ _, fun _ _ h _ => h⟩
theorem RK.trans {r : Nat} {W W' W'' : World} (h : RK r W W') (h' : RK r W' W'') : RK r W W'' := ⟨h.1.trans h'.1, fun k o hk hne => h'.2 k o (h.2 k o hk hne) hne⟩
theorem RK.of_below {r : Nat} {W W' : World} (h : Below W.heap.size W W') (hr : r < W.heap.size) : RK r W W' := ⟨h.mono (Nat.le_of_lt hr), fun k o hk _ => (h.block k (heap_lt hk)).trans hk⟩
theorem pset {b i : Nat} {W : World} {A A' : Array Value} {T : TypeId} (h : W.heap[b]? = some (.cells A T (0, 0))) (v : Value) (hA : A.setIfInBounds i v = A') : (W.setCell ⟨b, i, none⟩ v).heap[b]? = some (.cells A' T (0, 0)) := by
  subst hA
  have hlt : b < W.heap.size := (Array.getElem?_eq_some_iff.1 h).1
  simp only [World.setCell, Array.getElem?_modify]
  simp [h]
theorem RK.set (r i : Nat) (W : World) (v : Value) : RK r W (W.setCell ⟨r, i, none⟩ v) := by
  refine ⟨(Below.refl r W).setCell (p := ⟨r, i, none⟩) (Nat.le_refl _) v, fun k o hk hne => ?_⟩
  rw [Below.heap_setCell _ _ _ _ hne]; exact hk
end Go.Proofs.YtgaknbnhmoddcaaGreatDoor
namespace Go.Proofs.YtgaknbnhmoddcaaGreatDoor
open Go.RowKit
/-- Tokens that stand in a row from a place of a block on. -/
def TokRow (b off : Nat) (L : List Tok) (W : World) : Prop := ∀ (k : Nat) (h : k < L.length), W.cell? ⟨b, off + k * 3, none⟩ = some (.int .u8 (L[k].kind.toNat : Int)) ∧ W.cell? ⟨b, off + k * 3 + 1, none⟩ = some (.string ⟨L[k].text.toArray⟩) ∧ W.cell? ⟨b, off + k * 3 + 2, none⟩ = some (.int .i64 L[k].pos)
theorem TokRow.below {b off : Nat} {L : List Tok} {w w' : World} (h : TokRow b off L w) (hb : Below w.heap.size w w') (hlt : b < w.heap.size) : TokRow b off L w' := by
  intro k hk
  obtain ⟨h1, h2, h3⟩ := h k hk
  exact ⟨(hb.cell (p := ⟨b, _, none⟩) hlt).trans h1, (hb.cell (p := ⟨b, _, none⟩) hlt).trans h2, (hb.cell (p := ⟨b, _, none⟩) hlt).trans h3⟩
theorem TokRow.below' {b off : Nat} {L : List Tok} {w w' : World} (h : TokRow b off L w) (hb : Below w.heap.size w w') : TokRow b off L w' := by
  intro k hk
  exact h.below hb (lt_of_cell (h k hk).1) k hk
/-- A slice that reads as tokens. -/
def TokSl (v : Value) (L : List Tok) (W : World) : Prop := (∃ a cap, v = .slice a 0 cap ∧ L = [] ∧ (a = none → cap = 0)) ∨ ∃ b off cap, v = .slice (some ⟨b, off, none⟩) L.length cap ∧ TokRow b off L W
theorem TokSl.below {v : Value} {L : List Tok} {w w' : World} (h : TokSl v L w) (hb : Below w.heap.size w w') : TokSl v L w' := by
  rcases h with h | ⟨b, off, cap, h1, h2⟩
  · exact Or.inl h
  · exact Or.inr ⟨b, off, cap, h1, h2.below' hb⟩
theorem TokSl.nil (w : World) : TokSl (.slice none 0 0) [] w := Or.inl ⟨_, _, rfl, rfl, fun _ => rfl⟩
end Go.Proofs.YtgaknbnhmoddcaaGreatDoor
namespace Go.Proofs.YtgaknbnhmoddcaaGreatDoor
open Go.Lib
/-- An error, and at which token. -/
abbrev ErrP := Int × Nat
def lookP (T : List Tok) (a : Nat) : Tok := T.getD a ⟨0, [], 0⟩
def mrkP (T : List Tok) (a : Nat) (s : List UInt8) : Bool := (lookP T a).kind == 4 && (lookP T a).text == s
/-- A name that has to stand there, and is none of some. -/
def namP (nm : List (List UInt8)) (T : List Tok) (a : Nat) : Except ErrP (List UInt8) :=
  if (lookP T a).kind != 1 then .error (180, a) else if nm.contains (lookP T a).text then .error (42, a) else .ok (lookP T a).text
def memP (nm : List (List UInt8)) (T : List Tok) (a : Nat) : Except ErrP (List UInt8 × Nat) := match namP nm T a with
  | .error e => .error e
  | .ok s => if mrkP T (a + 1) [58] then .ok (s, a + 2) else .error (180, a + 1)
def itmP (val : List UInt8 → Nat → List Cel → Except ErrP (Nat × List Cel)) (isO : Bool) (T : List Tok) : Nat → Nat → List (List UInt8) → Nat → List Cel → Except ErrP (Nat × Nat × List Cel)
  | 0, _, _, a, _ => .error (180, a)
  | f + 1, n, nm, a, out => if mrkP T a (if isO then [125] else [93]) then .ok (n, a + 1, out) else
    match (if isO then memP nm T a else .ok ([], a)) with
    | .error e => .error e
    | .ok (s, a1) => match val s a1 out with
      | .error e => .error e
      | .ok (a2, out2) => itmP val isO T f (n + 1) (if isO then s :: nm else nm) a2 out2
def opnP (T : List Tok) (a : Nat) : Bool := mrkP T a [91] || mrkP T a [123]
def varP (fixed : Bool) (T : List Tok) (a : Nat) : Bool := !fixed && mrkP T a [36]
def begP (fixed : Bool) (T : List Tok) (a : Nat) : Bool := (lookP T a).kind == 1 || (lookP T a).kind == 2 || (lookP T a).kind == 3 || opnP T a || varP fixed T a
def wordP (name s : List UInt8) : Cel :=
  if s = [110, 117, 108, 108] then ⟨0, name, [], 0, 0⟩ else if s = [116, 114, 117, 101] then ⟨1, name, [], 1, 0⟩ else if s = [102, 97, 108, 115, 101] then ⟨1, name, [], 0, 0⟩ else ⟨4, name, s, 0, 0⟩
/-- A value that has nothing under it. -/
def leafP (fixed : Bool) (T : List Tok) (name : List UInt8) (a : Nat) (out : List Cel) : Except ErrP (Nat × List Cel) :=
  if varP fixed T a then (match namP [] T (a + 1) with
    | .error e => .error e
    | .ok s => .ok (a + 2, out ++ [⟨5, name, s, 0, 0⟩]))
  else if (lookP T a).kind = 3 then .ok (a + 1, out ++ [⟨3, name, (lookP T a).text, 0, 0⟩])
  else if (lookP T a).kind = 2 then (if rdE (lookP T a).text != 0 then .error (41, a) else .ok (a + 1, out ++ [⟨2, name, [], rdV (lookP T a).text, 0⟩]))
  else .ok (a + 1, out ++ [wordP name (lookP T a).text])
/-- A value: so many brackets more may be opened. -/
def valP (fixed : Bool) (T : List Tok) : Nat → List UInt8 → Nat → List Cel → Except ErrP (Nat × List Cel)
  | d, name, a, out => if !begP fixed T a then .error (180, a) else if out.length = 2048 then .error (4, a) else
    if opnP T a then (match d with
      | 0 => .error (30, a)
      | d + 1 => match itmP (valP fixed T d) (mrkP T a [123]) T (T.length + 1) 0 [] (a + 1) (out ++ [⟨if mrkP T a [123] then 7 else 6, name, [], 0, 0⟩]) with
        | .error e => .error e
        | .ok (n, a2, out2) => .ok (a2, manyAt out.length n out2))
    else leafP fixed T name a out
def litP (fixed : Bool) (T : List Tok) (a : Nat) : Except ErrP (Nat × List Cel) := valP fixed T 16 [] a []
/-- The arguments behind the bracket, until the other one. -/
def argG (fixed : Bool) (T : List Tok) : Nat → List (List UInt8) → Nat → List (List UInt8 × List Cel) → Except ErrP (Nat × List (List UInt8 × List Cel))
  | 0, _, a, _ => .error (180, a)
  | f + 1, nm, a, acc => if !acc.isEmpty && mrkP T a [41] then .ok (a + 1, acc) else match memP nm T a with
    | .error e => .error e
    | .ok (s, a1) => match litP fixed T a1 with
      | .error e => .error e
      | .ok (a2, v) => argG fixed T f (s :: nm) a2 (acc ++ [(s, v)])
def argsP (fixed : Bool) (T : List Tok) (a : Nat) : Except ErrP (Nat × List (List UInt8 × List Cel)) :=
  if mrkP T a [40] then argG fixed T (T.length + 1) [] (a + 1) [] else .ok (a, [])
abbrev DirP := List UInt8 × List (List UInt8 × List Cel)
def dirG (fixed : Bool) (T : List Tok) : Nat → Nat → List DirP → Except ErrP (Nat × List DirP)
  | 0, a, _ => .error (180, a)
  | f + 1, a, acc => if mrkP T a [64] then (match namP [] T (a + 1) with
      | .error e => .error e
      | .ok s => match argsP fixed T (a + 2) with
        | .error e => .error e
        | .ok (a2, l) => dirG fixed T f a2 (acc ++ [(s, l)]))
    else .ok (a, acc)
def dirsP (fixed : Bool) (T : List Tok) (a : Nat) : Except ErrP (Nat × List DirP) := dirG fixed T (T.length + 1) a []
/-- A wrapper's mark, so many being open: what is open behind it. -/
def wrapP (T : List Tok) (k a : Nat) (s : List UInt8) : Except ErrP (Option Nat) := if mrkP T a s then (if k = 8 then .error (30, a) else .ok (some (k + 1))) else .ok none
abbrev TypP := Nat × Nat × List UInt8 × List UInt8
/-- A type ahead of its last mark. -/
def typH (T : List Tok) (k a : Nat) (inner : Nat → Except ErrP TypP) : Except ErrP TypP := match wrapP T k a [91] with
  | .error e => .error e
  | .ok (some k1) => (match inner k1 with
    | .error e => .error e
    | .ok (k2, a2, nm, ws) => if mrkP T a2 [93] then .ok (k2, a2 + 1, nm, 2 :: ws) else .error (180, a2))
  | .ok none => (match namP [] T a with
    | .error e => .error e
    | .ok s => .ok (k, a + 1, s, []))
def typE (T : List Tok) (x : TypP) : Except ErrP TypP := match wrapP T x.1 x.2.1 [33] with
  | .error e => .error e
  | .ok (some k4) => .ok (k4, x.2.1 + 1, x.2.2.1, 1 :: x.2.2.2)
  | .ok none => .ok x
/-- A type: how many wrappers are read, what stands behind, the name, the wrappers. -/
def typG (T : List Tok) : Nat → Nat → Nat → Except ErrP TypP
  | 0, _, a => .error (30, a)
  | f + 1, k, a => match typH T k a (fun k1 => typG T f k1 (a + 1)) with
    | .error e => .error e
    | .ok x => typE T x
end Go.Proofs.YtgaknbnhmoddcaaGreatDoor
namespace Go.Proofs.YtgaknbnhmoddcaaGreatDoor
open Go.RowKit Go.Lib
def tokW (t : Tok) : Value := .agg #[.int .u8 (t.kind.toNat : Int), .string ⟨t.text.toArray⟩, .int .i64 t.pos]
/-- The program's reader of literals stands at a token. -/
def LS (p tb off cap : Nat) (T : List Tok) (fx : Bool) (k : Nat) (op : Int) (v : Value) (W : World) : Prop :=
  W.heap[p]? = some (.cells #[.slice (some ⟨tb, off, none⟩) T.length cap, .int .i64 k, .bool fx, .int .i64 op, v] 147 (0, 0)) ∧ TokRow tb off T W ∧ tb < p ∧ (T.length ≤ 100000 ∧ ∀ t ∈ T, t.text.length ≤ 100000) ∧ k ≤ 200000
section
variable {p tb off cap : Nat} {T : List Tok} {fx : Bool} {k : Nat} {op : Int} {v : Value} {W W' : World}
theorem LS.lt (h : LS p tb off cap T fx k op v W) : p < W.heap.size := heap_lt h.1
theorem LS.cells (h : LS p tb off cap T fx k op v W) :
    W.cell? ⟨p, 0, none⟩ = some (.slice (some ⟨tb, off, none⟩) T.length cap) ∧ W.cell? ⟨p, 1, none⟩ = some (.int .i64 k) ∧ W.cell? ⟨p, 2, none⟩ = some (.bool fx) ∧ W.cell? ⟨p, 3, none⟩ = some (.int .i64 op) ∧ W.cell? ⟨p, 4, none⟩ = some v := by
  refine ⟨?_, ?_, ?_, ?_, ?_⟩
  all_goals (rw [Lib.cell_of_heap h.1]; rfl)
theorem LS.frozen (h : LS p tb off cap T fx k op v W) (i : Nat) : W.frozen? ⟨p, i, none⟩ = false := Lib.frozen_of_heap h.1 i
theorem TokRow.rk {L : List Tok} (h : TokRow tb off L W) (hk : RK p W W') (hne : tb ≠ p) : TokRow tb off L W' := by
  intro i hi
  obtain ⟨h1, h2, h3⟩ := h i hi
  have hb : W'.heap[tb]? = W.heap[tb]? := by
    have hlt := lt_of_cell h1
    obtain ⟨o, ho⟩ : ∃ o, W.heap[tb]? = some o := ⟨_, Array.getElem?_eq_getElem hlt⟩
    rw [ho]; exact hk.2 tb o ho hne
  refine ⟨?_, ?_, ?_⟩
  · rw [← h1]; unfold World.cell?; rw [hb]
  · rw [← h2]; unfold World.cell?; rw [hb]
  · rw [← h3]; unfold World.cell?; rw [hb]
theorem LS.rk {k' : Nat} {op' : Int} {v' : Value} (h : LS p tb off cap T fx k op v W) (hk : RK p W W') (hW : W'.heap[p]? = some (.cells #[.slice (some ⟨tb, off, none⟩) T.length cap, .int .i64 k', .bool fx, .int .i64 op', v'] 147 (0, 0))) (hk' : k' ≤ 200000) : LS p tb off cap T fx k' op' v' W' :=
  ⟨hW, h.2.1.rk hk (Nat.ne_of_lt h.2.2.1), h.2.2.1, h.2.2.2.1, hk'⟩
theorem LS.below (h : LS p tb off cap T fx k op v W) (hb : Below W.heap.size W W') : LS p tb off cap T fx k op v W' :=
  h.rk (RK.of_below hb h.lt) ((hb.block p h.lt).trans h.1) h.2.2.2.2
theorem LS.go (h : LS p tb off cap T fx k op v W) (k' : Nat) (hk : k' ≤ 200000) : LS p tb off cap T fx k' op v (W.setCell ⟨p, 1, none⟩ (.int .i64 k')) := h.rk (RK.set p 1 W _) (pset h.1 _ rfl) hk
theorem LS.op_ (h : LS p tb off cap T fx k op v W) (a : Int) : LS p tb off cap T fx k a v (W.setCell ⟨p, 3, none⟩ (.int .i64 a)) := h.rk (RK.set p 3 W _) (pset h.1 _ rfl) h.2.2.2.2
theorem LS.out (h : LS p tb off cap T fx k op v W) (v' : Value) : LS p tb off cap T fx k op v' (W.setCell ⟨p, 4, none⟩ v') := h.rk (RK.set p 4 W _) (pset h.1 _ rfl) h.2.2.2.2
end
/-- An error on its way out, and where. -/
def stopP (e : Int × Nat) : List PanicEntry := [{ v := .iface 143 (.agg #[.int .i64 e.1, .int .i64 e.2]), recovered := false }]
theorem lookP_in {T : List Tok} {k : Nat} (h : k < T.length) : lookP T k = T[k] := by
  unfold lookP
  rw [List.getD_eq_getElem?_getD, List.getElem?_eq_getElem h]; rfl
theorem lookP_out {T : List Tok} {k : Nat} (h : ¬ k < T.length) : lookP T k = ⟨0, [], 0⟩ := by
  unfold lookP
  rw [List.getD_eq_getElem?_getD, List.getElem?_eq_none (by omega)]; rfl
theorem below_new3 (w : World) (o : Obj) (n : Nat) (a b c : Value) : Below w.heap.size w (((((w.alloc o).drewN n).setCell ⟨w.heap.size, 0, none⟩ a).setCell ⟨w.heap.size, 1, none⟩ b).setCell ⟨w.heap.size, 2, none⟩ c) :=
  (((below_dN n ((Below.refl _ _).alloc (Nat.le_refl _) o)).setCell (p := ⟨w.heap.size, 0, none⟩) (Nat.le_refl _) a).setCell (p := ⟨w.heap.size, 1, none⟩) (Nat.le_refl _) b).setCell (p := ⟨w.heap.size, 2, none⟩) (Nat.le_refl _) c
set_option maxRecDepth 100000 in
theorem l_look {p tb off cap : Nat} {T : List Tok} {fx : Bool} {k : Nat} {op : Int} {v : Value} (w : World) (h : LS p tb off cap T fx k op v w) :
    Calls Tryz.prog 107 #[.pointer (some ⟨p, 0, none⟩)] w fun x w' => x = .returned (tokW (lookP T k)) ∧ Below w.heap.size w w' := by
  obtain ⟨c0, c1, _, _, _⟩ := h.cells
  have hT := h.2.2.2.1.1
  have hT0 : T.length ≤ 9223372036854775807 := by omega
  have HR := Lib.hid h.2.1
  have hp := h.lt
  have htb : tb < w.heap.size := Nat.lt_trans h.2.2.1 h.lt
  clear h
  by_cases hk : k < T.length
  · obtain ⟨r1, r2, r3⟩ := HR.out k hk
    rw [lookP_in hk]
    obtain ⟨kd, hkd⟩ : ∃ kd : Int, (T[k].kind.toNat : Int) = kd := ⟨_, rfl⟩
    obtain ⟨tx, htx⟩ : ∃ tx : ByteArray, (⟨T[k].text.toArray⟩ : ByteArray) = tx := ⟨_, rfl⟩
    obtain ⟨ps, hps⟩ : ∃ ps : Int, T[k].pos = ps := ⟨_, rfl⟩
    unfold tokW
    rw [hkd, htx, hps]
    rw [hkd] at r1; rw [htx] at r2; rw [hps] at r3
    clear hkd htx hps HR
    go_enter Tryz.func107, Tryz.ntmps107
    go_wp2_with fail
    go_quiet (fail)
    go_wp2_with fail
    go_region
    go_wp2_with fail
    go_returns
    exact ⟨rfl, below_new3 _ _ _ _ _ _⟩
  · rw [lookP_out hk]
    clear HR
    go_enter Tryz.func107, Tryz.ntmps107
    go_wp2_with fail
    go_quiet (fail)
    go_wp2_with fail
    go_returns
    exact ⟨rfl, below_new3 _ _ _ _ _ _⟩
set_option maxRecDepth 100000 in
theorem l_no {p tb off cap : Nat} {T : List Tok} {fx : Bool} {k : Nat} {op : Int} {v : Value} (e : Int) (w : World) (h : LS p tb off cap T fx k op v w) :
    Calls Tryz.prog 83 #[.pointer (some ⟨p, 0, none⟩), .int .i64 e] w fun x w' => x = .panicked (stopP (e, k)) ∧ Below w.heap.size w w' := by
  obtain ⟨c0, c1, _, _, _⟩ := h.cells
  clear h
  go_enter Tryz.func83, Tryz.ntmps83
  go_wp2_with fail
  exact ⟨rfl, rfl, Below.refl _ _⟩
set_option maxRecDepth 100000 in
theorem l_is {p tb off cap : Nat} {T : List Tok} {fx : Bool} {k : Nat} {op : Int} {v : Value} (what : ByteArray) (w : World) (h : LS p tb off cap T fx k op v w) :
    Calls Tryz.prog 82 #[.pointer (some ⟨p, 0, none⟩), .int .u8 4, .string what] w fun x w' => x = .returned (.bool (mrkP T k what.data.toList)) ∧ Below w.heap.size w w' := by
  have HL := Lib.hid (l_look w h)
  clear h
  unfold mrkP
  unfold tokW at HL
  obtain ⟨t, ht⟩ : ∃ t : Tok, lookP T k = t := ⟨_, rfl⟩
  rw [ht] at HL ⊢
  clear ht
  obtain ⟨kk, tx, ps⟩ := t
  obtain ⟨b, hb⟩ : ∃ b : ByteArray, (⟨tx.toArray⟩ : ByteArray) = b := ⟨_, rfl⟩
  have hbt : b.data.toList = tx := by rw [← hb]
  simp only [] at HL ⊢
  rw [hb] at HL
  rw [← hbt, ← ByteArray.toList_eq, ← ByteArray.toList_eq]
  clear hb hbt
  by_cases h4 : kk = 4
  · rw [h4] at HL ⊢
    clear h4
    obtain ⟨r, hr⟩ : ∃ r : Bool, (b.toList == what.toList) = r := ⟨_, rfl⟩
    rw [hr]
    go_enter Tryz.func82, Tryz.ntmps82
    go_wp2_with fail
    refine HL.out.mono ?_; rintro x w1 ⟨rfl, hb⟩
    have HB := Lib.hid hb
    clear hb
    go_wp2_with fail
    go_returns
    exact ⟨rfl, HB.out.alloc HB.out.size _⟩
  · have hn : ((kk == 4) && (b.toList == what.toList)) = false := by
      have : (kk == 4) = false := by simpa using h4
      rw [this]; rfl
    have h5 : ¬ (kk.toNat : Int) = 4 := fun h => h4 (UInt8.toNat_inj.1 (by simpa using (by omega : kk.toNat = 4)))
    rw [hn]
    obtain ⟨kd, hkd⟩ : ∃ kd : Int, (kk.toNat : Int) = kd := ⟨_, rfl⟩
    rw [hkd] at HL h5
    clear hn hkd h4
    go_enter Tryz.func82, Tryz.ntmps82
    go_wp2_with fail
    refine HL.out.mono ?_; rintro x w1 ⟨rfl, hb⟩
    have HB := Lib.hid hb
    clear hb
    go_wp2_with fail
    go_returns
    exact ⟨rfl, HB.out.alloc HB.out.size _⟩
/-- What a reader's step leaves: a value and the place behind it, or an error on its way out. -/
def PO (p tb off cap : Nat) (T : List Tok) (fx : Bool) (op : Int) (v : Value) (w0 : World) (o : Except ErrP (Value × Nat)) (x : Ending) (W : World) : Prop := match o with
  | .error e => x = .panicked (stopP e) ∧ Below p w0 W
  | .ok (u, k) => x = .returned u ∧ LS p tb off cap T fx k op v W ∧ RK p w0 W
set_option maxRecDepth 100000 in
theorem l_mark {p tb off cap : Nat} {T : List Tok} {fx : Bool} {k : Nat} {op : Int} {v : Value} (what : ByteArray) (w : World) (h : LS p tb off cap T fx k op v w) (hk : k ≤ 100000) :
    Calls Tryz.prog 84 #[.pointer (some ⟨p, 0, none⟩), .string what] w (PO p tb off cap T fx op v w (.ok (.bool (mrkP T k what.data.toList), if mrkP T k what.data.toList then k + 1 else k))) := by
  have HI := Lib.hid (l_is what w h)
  have hp := h.lt
  have HL := Lib.hid h
  clear h
  cases hm : mrkP T k what.data.toList with
  | false =>
    rw [hm] at HI
    clear hm
    go_enter Tryz.func84, Tryz.ntmps84
    go_wp2_with fail
    refine HI.out.mono ?_; rintro x w1 ⟨rfl, hb⟩
    have HB := Lib.hid hb
    clear hb
    go_wp2_with fail
    go_returns
    exact ⟨rfl, HL.out.below HB.out, RK.of_below HB.out hp⟩
  | true =>
    rw [hm] at HI
    clear hm
    have hw : IntKind.i64.wrap ((k : Int) + 1) = ((k + 1 : Nat) : Int) := by rw [IntWalk.i64_in ((k : Int) + 1) (by omega)]; omega
    go_enter Tryz.func84, Tryz.ntmps84
    go_wp2_with fail
    refine HI.out.mono ?_; rintro x w1 ⟨rfl, hb⟩
    have HK1 := Lib.hid (RK.of_below hb hp)
    have HL1 := Lib.hid (HL.out.below hb)
    obtain ⟨c0, c1, _, _, _⟩ := HL1.out.cells
    have f1 := HL1.out.frozen 1
    clear hb
    go_wp2_with fail
    go_returns
    exact ⟨rfl, HL1.out.go (k + 1) (by omega), HK1.out.trans (RK.set p 1 _ _)⟩
theorem PO.lift {p tb off cap : Nat} {T : List Tok} {fx : Bool} {op : Int} {v : Value} {w w1 : World} {o : Except ErrP (Value × Nat)} {x : Ending} {W : World} (h : PO p tb off cap T fx op v w1 o x W) (hk : RK p w w1) : PO p tb off cap T fx op v w o x W := by
  unfold PO at *
  cases o with
  | error e => exact ⟨h.1, hk.1.trans h.2⟩
  | ok a => exact ⟨h.1, h.2.1, hk.trans h.2.2⟩
set_option maxRecDepth 100000 in
theorem l_must {p tb off cap : Nat} {T : List Tok} {fx : Bool} {k : Nat} {op : Int} {v : Value} (what : ByteArray) (w : World) (h : LS p tb off cap T fx k op v w) (hk : k ≤ 100000) :
    Calls Tryz.prog 85 #[.pointer (some ⟨p, 0, none⟩), .string what] w (PO p tb off cap T fx op v w (if mrkP T k what.data.toList then .ok (.tuple #[], k + 1) else .error (180, k))) := by
  have HM := Lib.hid (l_mark what w h hk)
  cases hm : mrkP T k what.data.toList with
  | false =>
    rw [hm] at HM
    have HL := Lib.hid h
    clear hm h
    go_enter Tryz.func85, Tryz.ntmps85
    go_wp2_with fail
    refine HM.out.mono ?_; rintro x w1 ⟨rfl, hl, hk⟩
    have HN := Lib.hid (l_no 180 w1 hl)
    have HK := Lib.hid hk
    have hp := hl.lt
    clear hl hk
    go_wp2_with fail
    refine HN.out.mono ?_; rintro x w2 ⟨rfl, hb⟩
    have HB := Lib.hid hb
    clear hb
    go_wp2_with fail
    exact ⟨rfl, rfl, HK.out.1.trans (HB.out.mono (Nat.le_of_lt hp))⟩
  | true =>
    rw [hm] at HM
    clear hm h
    go_enter Tryz.func85, Tryz.ntmps85
    go_wp2_with fail
    refine HM.out.mono ?_; rintro x w1 ⟨rfl, hl, hk⟩
    have HL := Lib.hid hl
    have HK := Lib.hid hk
    clear hl hk
    go_wp2_with fail
    first | go_end0 | refine bodyPost_ret (results_none rfl _ _ _) rfl ?_
    exact ⟨rfl, HL.out, HK.out⟩
end Go.Proofs.YtgaknbnhmoddcaaGreatDoor
namespace Go.Proofs.YtgaknbnhmoddcaaGreatDoor
open Go.RowKit Go.Lib
/-- An operation that yields in every world that meets S is taken first. -/
theorem tky {P : Program} {ops : Array Oper} {Q : Exit → Act → World → Prop} {md : Region.Mode} {S : World → Prop} (i : Nat) (d : Option Tmp) {v : Value} {oi : Oper} {fuel : Nat} {listed : Array Bool} {a : Act} {w : World} (hi' : ops.toList[i]? = some oi)
    (hk : (Region.noSelect ops && Region.free md ops listed i && (Region.ready md ops listed).contains i) = true) (hw : Region.wanted oi (yielded ops a.tmps) = true)
    (hd : oi.dst = d) (hQ : ∀ c a w, Q (.panic c) (a.put d v) w → Q (.panic c) a w) (hy : ∀ w, S w → (execOp a.eval oi).run P w = .ok (.value v) w) (hS : S w)
    (h : wpAnyH P md ops Q S fuel (listed.setIfInBounds i true) (a.put d v) w) : wpAnyH P md ops Q S (fuel + 1) listed a w := by
  have hi : ops[i]? = some oi := by rw [← Array.getElem?_toList]; exact hi'
  subst hd
  simp only [Bool.and_eq_true] at hk
  exact wpAnyH_take hi hk.1.1 hk.1.2 hk.2 hQ (Or.inl ⟨hw, hy⟩) hS h
/-- What is carried out comes up alone. -/
theorem rcons {P : Program} {ops : Array Oper} {Q : Exit → Act → World → Prop} {md : Region.Mode} {S : World → Prop} (i : Nat) {fuel : Nat} {listed : Array Bool} {a : Act} {w : World} {o : Oper} (ho : ops.toList[i]? = some o) (hr : Region.ready md ops listed = [i])
    (h : ∀ K' : Act → World → Prop, Shut (∀ a w, S w → (S w → wpAnyH P md ops Q S fuel (listed.setIfInBounds i true) a w) → K' a w) → if Region.wanted o (yielded ops a.tmps) = true then Oper.wp P o a w K' Q else K' (a.put o.dst undef) w) : wpAnyH P md ops Q S (fuel + 1) listed a w :=
  wpAnyH_ready (rs := [i]) hr (by simp) (AllReadyH.cons (by rw [← Array.getElem?_toList]; exact ho) h AllReadyH.nil)
theorem ext_list (s : ByteArray) (a m : Nat) : (s.extract a (a + m)).toList = (s.data.toList.drop a).take m := by
  rw [ByteArray.toList_eq, ByteArray.data_extract, Array.toList_extract, List.extract_eq_take_drop]
  rw [show a + m - a = m by omega]
end Go.Proofs.YtgaknbnhmoddcaaGreatDoor
namespace Go.Proofs.YtgaknbnhmoddcaaGreatDoor
open Go.Lib
/-- What is left of a text is a text, and no longer. -/
def Cut (l t : List UInt8) : Prop := t.length ≤ l.length ∧ (validD l = true → validD t = true)
theorem Cut.refl (l : List UInt8) : Cut l l := ⟨Nat.le_refl _, id⟩
theorem Cut.trans {l t u : List UInt8} (h : Cut l t) (h' : Cut t u) : Cut l u := ⟨Nat.le_trans h'.1 h.1, fun x => h'.2 (h.2 x)⟩
theorem decode_ascii (c : UInt8) (l : List UInt8) (h : c.toNat < 128) : decodeL (c :: l) = (c.toNat, 1) := by
  have ho : oneB (c :: l) 1 = true := by
    unfold oneB
    rw [decide_eq_true (by simp), List.take_succ_cons, List.take_zero]
    simp only [Bool.true_and, Bool.and_eq_true, beq_iff_eq, numN]
    refine ⟨by simp only [isPt, decide_eq_true_eq]; omega, ?_⟩
    unfold encN
    rw [if_pos h, toN rfl]
  have := decode_one _ 1 ho
  rw [this]; rfl
theorem valid_cons (c : UInt8) (l : List UInt8) (h : c.toNat < 128) : validD (c :: l) = validD l := by
  rw [valid_step _ (by simp)]
  unfold wellB
  rw [decode_ascii c l h]
  rw [decide_eq_false (by intro h1; have := h1.1; simp at this; omega)]
  rfl
theorem cut_cons (c : UInt8) (l : List UInt8) (h : c.toNat < 128) : Cut (c :: l) l := ⟨by simp, fun x => by rw [valid_cons c l h] at x; exact x⟩
theorem cut_drop : ∀ (n : Nat) (l : List UInt8), (∀ c ∈ l.take n, c.toNat < 128) → Cut l (l.drop n)
  | 0, l, _ => by rw [List.drop_zero]; exact Cut.refl _
  | n + 1, [], _ => by rw [List.drop_nil]; exact Cut.refl _
  | n + 1, c :: l, h => by
    rw [List.drop_succ_cons]
    exact (cut_cons c l (h c (by simp))).trans (cut_drop n l fun x hx => h x (by simp [hx]))
theorem cut_while (p : UInt8 → Bool) (hp : ∀ c, p c = true → c.toNat < 128) : ∀ l : List UInt8, Cut l (l.dropWhile p)
  | [] => Cut.refl _
  | c :: l => by
    rw [List.dropWhile_cons]
    by_cases h : p c = true
    · rw [if_pos h]; exact (cut_cons c l (hp c h)).trans (cut_while p hp l)
    · rw [if_neg h]; exact Cut.refl _
theorem blank_ascii (c : UInt8) (h : blankJ c = true) : c.toNat < 128 := by
  unfold blankJ at h
  simp only [Bool.or_eq_true, beq_iff_eq] at h
  rcases h with ((h | h) | h) | h <;> (subst h; decide)
theorem cut_bl (l : List UInt8) : Cut l (blJ l) := cut_while _ blank_ascii l
theorem cut_tk (what l t : List UInt8) (hw : ∀ c ∈ what, c.toNat < 128) (h : tkJ what l = some t) : Cut l t ∧ t.length + what.length = l.length := by
  unfold tkJ at h
  split at h
  · rename_i hp
    injection h with h
    obtain ⟨u, rfl⟩ := List.isPrefixOf_iff_prefix.1 hp
    rw [List.drop_left] at h
    subst h
    refine ⟨?_, by rw [List.length_append]; omega⟩
    have := cut_drop what.length (what ++ u) (by rw [List.take_left]; exact hw)
    rw [List.drop_left] at this
    exact this
  · cases h
theorem hexJ_ascii (c : UInt8) (d : Nat) (h : hexJ c = some d) : c.toNat < 128 ∧ d < 16 := by
  unfold hexJ at h
  split at h
  · injection h with h; omega
  · split at h
    · injection h with h; omega
    · split at h
      · injection h with h; omega
      · cases h
theorem cut_hexs : ∀ (k n : Nat) (l : List UInt8) (m : Nat) (t : List UInt8), hexsJ k n l = some (m, t) → Cut l t ∧ t.length + k = l.length
  | 0, n, l, m, t, h => by
    rw [hexsJ] at h
    injection h with h; injection h with h1 h2
    subst h2
    exact ⟨Cut.refl _, by omega⟩
  | k + 1, n, [], m, t, h => by rw [hexsJ] at h; cases h
  | k + 1, n, c :: r, m, t, h => by
    rw [hexsJ] at h
    cases hx : hexJ c with
    | none => rw [hx] at h; cases h
    | some d =>
      rw [hx] at h
      have ⟨h1, h2⟩ := cut_hexs k _ r m t h
      exact ⟨(cut_cons c r (hexJ_ascii c d hx).1).trans h1, by rw [List.length_cons]; omega⟩
theorem hexs_lt : ∀ (k n : Nat) (l : List UInt8) (m : Nat) (t : List UInt8) (B : Nat), hexsJ k n l = some (m, t) → n < B → m < B * 16 ^ k
  | 0, n, l, m, t, B, h, hn => by
    rw [hexsJ] at h
    injection h with h; injection h with h1 h2
    omega
  | k + 1, n, [], m, t, B, h, hn => by rw [hexsJ] at h; cases h
  | k + 1, n, c :: r, m, t, B, h, hn => by
    rw [hexsJ] at h
    cases hx : hexJ c with
    | none => rw [hx] at h; cases h
    | some d =>
      rw [hx] at h
      have hd := (hexJ_ascii c d hx).2
      have := hexs_lt k (n * 16 + d) r m t (B * 16) h (by omega)
      rw [Nat.pow_succ, Nat.mul_comm (16 ^ k) 16, ← Nat.mul_assoc]; exact this
theorem letJ_ascii (c : UInt8) (p : Nat) (h : letJ c = some p) : c.toNat < 128 ∧ isPt p = true := by
  have := (by decide +kernel : ∀ i : Fin 256, ∀ q ∈ letJ (UInt8.ofNat i.val), (UInt8.ofNat i.val).toNat < 128 ∧ isPt q = true) ⟨c.toNat, UInt8.toNat_lt c⟩ p
  simp only [UInt8.ofNat_toNat] at this
  exact this h
/-- Behind an escape: a text, and a code point. -/
theorem cut_esc (l : List UInt8) (p : Nat) (t : List UInt8) (h : escJ l = some (p, t)) : Cut l t ∧ t.length < l.length ∧ isPt p = true := by
  cases l with
  | nil => rw [escJ] at h; cases h
  | cons c r =>
    rw [escJ] at h
    cases hl : letJ c with
    | some q =>
      rw [hl] at h
      injection h with h; injection h with h1 h2
      subst h1; subst h2
      obtain ⟨g1, g2⟩ := letJ_ascii c q hl
      exact ⟨cut_cons c r g1, by simp, g2⟩
    | none =>
      rw [hl] at h
      simp only at h
      split at h
      · cases h
      · rename_i hu
        have hu2 : c = 117 := by simpa using hu
        subst hu2
        have k0 := cut_cons 117 r (by decide)
        cases hx : hexsJ 4 0 r with
        | none => rw [hx] at h; cases h
        | some nt =>
          obtain ⟨n, t1⟩ := nt
          rw [hx] at h
          simp only at h
          obtain ⟨k1, k2⟩ := cut_hexs 4 0 r n t1 hx
          have hn := hexs_lt 4 0 r n t1 1 hx (by decide)
          split at h
          · cases h
          · rename_i hlo
            split at h
            · rename_i hhi
              unfold lowJ at h
              cases ht : tkJ [92, 117] t1 with
              | none => rw [ht] at h; cases h
              | some t2 =>
                rw [ht] at h
                simp only at h
                obtain ⟨k3, k4⟩ := cut_tk _ _ _ (by decide) ht
                cases hx2 : hexsJ 4 0 t2 with
                | none => rw [hx2] at h; cases h
                | some mt =>
                  obtain ⟨m, t3⟩ := mt
                  rw [hx2] at h
                  simp only at h
                  obtain ⟨k5, k6⟩ := cut_hexs 4 0 t2 m t3 hx2
                  split at h
                  · cases h
                  · rename_i hm
                    injection h with h; injection h with h1 h2
                    subst h1; subst h2
                    refine ⟨(((k0.trans k1).trans k3).trans k5), by simp only [List.length_cons, List.length_nil] at *; omega, ?_⟩
                    simp only [isPt, decide_eq_true_eq]
                    omega
            · rename_i hhi
              injection h with h; injection h with h1 h2
              subst h1; subst h2
              refine ⟨k0.trans k1, by simp only [List.length_cons] at *; omega, ?_⟩
              simp only [isPt, decide_eq_true_eq]
              simp at hn
              omega
theorem decode_pt (l : List UInt8) (hne : l ≠ []) (hw : wellB l = true) : isPt (decodeL l).1 = true ∧ 1 ≤ (decodeL l).2 ∧ (decodeL l).2 ≤ l.length ∧ encN (decodeL l).1 = l.take (decodeL l).2 := by
  have hv : ¬ ((decodeL l).1 = 65533 ∧ (decodeL l).2 = 1) := by
    simp only [wellB, Bool.not_eq_true', decide_eq_false_iff_not] at hw
    exact hw
  obtain ⟨g1, g2, g3, g4⟩ := one_decode l hne hv
  unfold oneB at g1
  simp only [Bool.and_eq_true, decide_eq_true_eq, beq_iff_eq] at g1
  rw [g2] at g1
  exact ⟨g1.2.1, g3, g1.1, g1.2.2⟩
end Go.Proofs.YtgaknbnhmoddcaaGreatDoor
namespace Go.Proofs.YtgaknbnhmoddcaaGreatDoor
open Go.RowKit Go.Lib
theorem int_info : (Tryz.prog.info? 3).map (fun i => (i.zero, i.size, i.bytes)) = some (some (.int .i64 0), 1, 8) := by kernel_rfl
def natCells (l : List Nat) : List Value := l.map fun (n : Nat) => Value.int .i64 (n : Int)
/-- A slice of numbers of the call's own. -/
def OwnI (B : Nat) (v : Value) (l : List Nat) (W : World) : Prop := W.ownsRow B 3 1 v l.length (natCells l)
theorem OwnI.nil (B : Nat) (W : World) : OwnI B (.slice none 0 0) [] W := World.ownsRow_nil W B 3 1
theorem OwnI.below {B : Nat} {v : Value} {l : List Nat} {w w' : World} (h : OwnI B v l w) (hb : Below w.heap.size w w') : OwnI B v l w' := by
  obtain ⟨h1, h2⟩ := h
  refine ⟨h1, ?_⟩
  rcases h2 with h2 | ⟨g, cap, cur, hv, hB, hg, hrest⟩
  · exact Or.inl h2
  · have hlt : g < w.heap.size := (Array.getElem?_eq_some_iff.1 hg).1
    exact Or.inr ⟨g, cap, cur, hv, hB, (hb.block g hlt).trans hg, hrest⟩
theorem OwnI.alloc {B : Nat} {v : Value} {l : List Nat} {w : World} (h : OwnI B v l w) (o : Obj) : OwnI B v l (w.alloc o) := World.ownsRow.alloc h o
theorem OwnI.lt {B : Nat} {v : Value} {l : List Nat} {w : World} (h : OwnI B v l w) : ∀ k, v.ownBlock = some k → B ≤ k := fun k hk => (World.ownsRow.lt h k hk).1
theorem new_cell0 (W : World) (T : TypeId) (v : Value) : (W.alloc (.cells #[v] T)).cell? ⟨W.heap.size, 0, none⟩ = some v := by
  rw [Lib.cell_of_heap (heap_alloc_new W _)]; rfl
/-- What a text's check answers. -/
def chkE (l : List UInt8) : Int := if 16384 < l.length then 4 else if validD l then 0 else 10
end Go.Proofs.YtgaknbnhmoddcaaGreatDoor
namespace Go.Proofs.YtgaknbnhmoddcaaGreatDoor
open Go.RowKit
/-- A slice that reads as numbers. -/
def IntSl (v : Value) (l : List Nat) (W : World) : Prop := (∃ a cap, v = .slice a 0 cap ∧ l = []) ∨ ∃ b off cap, v = .slice (some ⟨b, off, none⟩) l.length cap ∧ ∀ (j : Nat) (x : Nat), l[j]? = some x → W.cell? ⟨b, off + j, none⟩ = some (.int .i64 (x : Int))
theorem IntSl.below {v : Value} {l : List Nat} {w w' : World} (h : IntSl v l w) (hb : Below w.heap.size w w') : IntSl v l w' := by
  rcases h with h | ⟨b, off, cap, h1, h2⟩
  · exact Or.inl h
  · exact Or.inr ⟨b, off, cap, h1, fun j x hj => (hb.cell (p := ⟨b, _, none⟩) (lt_of_cell (h2 j x hj))).trans (h2 j x hj)⟩
theorem OwnI.sl {B : Nat} {v : Value} {l : List Nat} {w : World} (h : OwnI B v l w) : IntSl v l w := by
  obtain ⟨h1, h2⟩ := h
  rcases h2 with ⟨h2, h3⟩ | ⟨g, cap, cur, hv, hB, hg, hn, hc, hcs, ht⟩
  · exact Or.inl ⟨_, _, h2, List.eq_nil_of_length_eq_zero h3⟩
  · refine Or.inr ⟨g, 0, cap, hv, ?_⟩
    intro j x hj
    rw [Nat.mul_one] at ht
    have hjl : j < l.length := (List.getElem?_eq_some_iff.1 hj).1
    have e : cur.toList[j]? = some (.int .i64 (x : Int)) := by
      have : (cur.toList.take l.length)[j]? = some (.int .i64 (x : Int)) := by rw [ht]; unfold natCells; rw [List.getElem?_map, hj]; rfl
      rw [List.getElem?_take] at this
      simpa [hjl] using this
    rw [Nat.zero_add]
    refine (Lib.cell_of_heap hg j).trans ?_
    simpa using e
theorem OwnI.rk {B r : Nat} {v : Value} {l : List Nat} {w w' : World} (h : OwnI B v l w) (hk : RK r w w') (hr : r < B) : OwnI B v l w' := by
  obtain ⟨h1, h2⟩ := h
  refine ⟨h1, ?_⟩
  rcases h2 with h2 | ⟨g, cap, cur, hv, hB, hg, hrest⟩
  · exact Or.inl h2
  · exact Or.inr ⟨g, cap, cur, hv, hB, hk.2 g _ hg (by omega), hrest⟩
theorem RK.grown {r : Nat} {w W W' : World} {row : Option Nat} (h : RK r w W) (hg : W.grownBy W' row) (hr : ∀ k, row = some k → w.heap.size ≤ k) (hlt : r < w.heap.size) : RK r w W' := by
  have hs := h.1.size
  refine ⟨h.1.grown hg (by omega) (fun k hk => by have := hr k hk; omega), fun k o hk hne => ?_⟩
  have h1 := h.2 k o hk hne
  have hkl := heap_lt hk
  rw [hg.block k (heap_lt h1) (fun e => by have := hr k e.symm; omega)]
  exact h1
end Go.Proofs.YtgaknbnhmoddcaaGreatDoor
namespace Go.Proofs.YtgaknbnhmoddcaaGreatDoor
open Go.RowKit
/-- A slice of texts of the call's own. -/
def OwnS (B : Nat) (v : Value) (l : List ByteArray) (W : World) : Prop := W.ownsRow B 9 1 v l.length (l.map Value.string)
theorem OwnS.nil (B : Nat) (W : World) : OwnS B (.slice none 0 0) [] W := World.ownsRow_nil W B 9 1
theorem OwnS.below {B : Nat} {v : Value} {l : List ByteArray} {w w' : World} (h : OwnS B v l w) (hb : Below w.heap.size w w') : OwnS B v l w' := by
  obtain ⟨h1, h2⟩ := h
  refine ⟨h1, ?_⟩
  rcases h2 with h2 | ⟨g, cap, cur, hv, hB, hg, hrest⟩
  · exact Or.inl h2
  · have hlt : g < w.heap.size := (Array.getElem?_eq_some_iff.1 hg).1
    exact Or.inr ⟨g, cap, cur, hv, hB, (hb.block g hlt).trans hg, hrest⟩
theorem OwnS.alloc {B : Nat} {v : Value} {l : List ByteArray} {w : World} (h : OwnS B v l w) (o : Obj) : OwnS B v l (w.alloc o) := World.ownsRow.alloc h o
theorem OwnS.lt {B : Nat} {v : Value} {l : List ByteArray} {w : World} (h : OwnS B v l w) : ∀ k, v.ownBlock = some k → B ≤ k := fun k hk => (World.ownsRow.lt h k hk).1
theorem OwnS.cells {B : Nat} {v : Value} {l : List ByteArray} {w : World} (h : OwnS B v l w) : (v = .slice none 0 0 ∧ l = []) ∨ ∃ g cap, v = .slice (some ⟨g, 0, none⟩) l.length cap ∧ g < w.heap.size ∧ l.length ≤ cap ∧ ∀ (j : Nat) x, l[j]? = some x → w.cell? ⟨g, 0 + j, none⟩ = some (.string x) := by
  obtain ⟨h1, h2⟩ := h
  rcases h2 with ⟨h2, h3⟩ | ⟨g, cap, cur, hv, hB, hg, hn, hc, hcs, ht⟩
  · exact Or.inl ⟨h2, List.eq_nil_of_length_eq_zero h3⟩
  · refine Or.inr ⟨g, cap, hv, (Array.getElem?_eq_some_iff.1 hg).1, hn, ?_⟩
    intro j x hj
    rw [Nat.mul_one] at ht
    have hjl : j < l.length := (List.getElem?_eq_some_iff.1 hj).1
    have e : cur.toList[j]? = some (.string x) := by
      have : (cur.toList.take l.length)[j]? = some (.string x) := by rw [ht]; simp [hj]
      rw [List.getElem?_take] at this
      simpa [hjl] using this
    rw [Nat.zero_add]
    refine (Lib.cell_of_heap hg j).trans ?_
    simpa using e
end Go.Proofs.YtgaknbnhmoddcaaGreatDoor
namespace Go.Proofs.YtgaknbnhmoddcaaGreatDoor
open Go.RowKit Go.Lib
abbrev Ex := Except Int (List UInt8)
def tkE (what : List UInt8) (E : Ex) : Ex := match E with
  | .error e => .error e
  | .ok l => match tkJ what l with | none => .error 40 | some t => .ok t
def blE (E : Ex) : Ex := match E with | .error e => .error e | .ok l => .ok (blJ l)
theorem tkE_none {what l : List UInt8} (h : tkJ what l = none) : tkE what (.ok l) = .error 40 := by simp [tkE, h]
theorem tkE_some {what l t : List UInt8} (h : tkJ what l = some t) : tkE what (.ok l) = .ok t := by simp [tkE, h]
/-- What is left is a text. -/
def VaE (E : Ex) : Prop := match E with | .error _ => True | .ok l => validD l = true
theorem VaE.tk {what : List UInt8} {E : Ex} (h : VaE E) (hw : ∀ c ∈ what, c.toNat < 128) : VaE (tkE what E) := by
  cases E with
  | error e => trivial
  | ok l =>
    cases ht : tkJ what l with
    | none => rw [tkE_none ht]; trivial
    | some t => rw [tkE_some ht]; exact (cut_tk what l t hw ht).1.2 h
theorem VaE.bl {E : Ex} (h : VaE E) : VaE (blE E) := by
  cases E with
  | error e => trivial
  | ok l => exact (cut_bl l).2 h
end Go.Proofs.YtgaknbnhmoddcaaGreatDoor
namespace Go.Proofs.YtgaknbnhmoddcaaGreatDoor
open Go.RowKit
theorem cel_info : (Tryz.prog.info? 63).map (fun i => (i.zero, i.size, i.bytes)) = some (some (.agg #[.int .u8 0, .string ⟨#[]⟩, .string ⟨#[]⟩, .int .i64 0, .int .i64 0]), 5, 56) := by kernel_rfl
def celFlat : List Cel → List Value
  | [] => []
  | t :: r => .int .u8 (t.kind.toNat : Int) :: .string ⟨t.name.toArray⟩ :: .string ⟨t.text.toArray⟩ :: .int .i64 t.num :: .int .i64 t.many :: celFlat r
theorem celFlat_len : ∀ L : List Cel, (celFlat L).length = L.length * 5
  | [] => rfl
  | t :: r => by rw [celFlat]; simp [celFlat_len r]; omega
theorem celFlat_app : ∀ L M : List Cel, celFlat (L ++ M) = celFlat L ++ celFlat M
  | [], _ => rfl
  | t :: r, M => by rw [List.cons_append, celFlat, celFlat_app r M, celFlat]; rfl
theorem celFlat_one : ∀ L : List Cel, ∀ u ∈ celFlat L, u.oneCell' = true
  | [], u, h => by cases h
  | t :: r, u, h => by
    rw [celFlat] at h
    rcases List.mem_cons.1 h with h | h
    · rw [h]; rfl
    rcases List.mem_cons.1 h with h | h
    · rw [h]; rfl
    rcases List.mem_cons.1 h with h | h
    · rw [h]; rfl
    rcases List.mem_cons.1 h with h | h
    · rw [h]; rfl
    rcases List.mem_cons.1 h with h | h
    · rw [h]; rfl
    · exact celFlat_one r u h
theorem celFlat_get : ∀ (L : List Cel) (k : Nat) (h : k < L.length), (celFlat L)[k * 5]? = some (.int .u8 (L[k].kind.toNat : Int)) ∧ (celFlat L)[k * 5 + 1]? = some (.string ⟨L[k].name.toArray⟩) ∧ (celFlat L)[k * 5 + 2]? = some (.string ⟨L[k].text.toArray⟩) ∧ (celFlat L)[k * 5 + 3]? = some (.int .i64 L[k].num) ∧ (celFlat L)[k * 5 + 4]? = some (.int .i64 L[k].many)
  | [], k, h => by simp at h
  | t :: r, 0, h => by simp [celFlat]
  | t :: r, k + 1, h => by
    have ih := celFlat_get r k (by simpa using h)
    rw [show (k + 1) * 5 = k * 5 + 1 + 1 + 1 + 1 + 1 from by omega]
    simp only [celFlat, List.getElem?_cons_succ, List.getElem_cons_succ]
    exact ih
theorem addr_add (b o j : Nat) : (⟨b, o, none⟩ : Addr).add j = ⟨b, o + j, none⟩ := by
  unfold Addr.add
  split
  · rename_i hz; rw [hz]; rfl
  · rfl
/-- A slice of cells of the call's own. -/
def OwnC (B : Nat) (v : Value) (L : List Cel) (W : World) : Prop := W.ownsRow B 63 5 v L.length (celFlat L)
theorem OwnC.nil (B : Nat) (W : World) : OwnC B (.slice none 0 0) [] W := World.ownsRow_nil W B 63 5
theorem OwnC.lt {B : Nat} {v : Value} {l : List Cel} {w : World} (h : OwnC B v l w) : ∀ k, v.ownBlock = some k → B ≤ k := fun k hk => (World.ownsRow.lt h k hk).1
theorem OwnC.sl {B : Nat} {v : Value} {L : List Cel} {w : World} (h : OwnC B v L w) : CelSl v L w := by
  obtain ⟨h1, h2⟩ := h
  rcases h2 with ⟨rfl, h2⟩ | ⟨g, cap, cur, rfl, hB, hg, hn, hc, hcs, ht⟩
  · exact Or.inl ⟨_, _, rfl, List.eq_nil_of_length_eq_zero h2, fun _ => rfl⟩
  · by_cases h0 : L = []
    · subst h0
      exact Or.inl ⟨_, _, rfl, rfl, fun h => by cases h⟩
    refine Or.inr ⟨g, 0, cap, rfl, ?_, List.length_pos_iff.2 h0⟩
    intro k hk
    obtain ⟨g0, g1, g2, g3, g4⟩ := celFlat_get L k hk
    have F : ∀ j u, (celFlat L)[j]? = some u → w.cell? ⟨g, 0 + j, none⟩ = some u := by
      intro j u hj
      have hjl : j < L.length * 5 := by rw [← celFlat_len]; exact (List.getElem?_eq_some_iff.1 hj).1
      rw [← ht, List.getElem?_take, if_pos hjl] at hj
      rw [Nat.zero_add]
      refine (Lib.cell_of_heap hg j).trans ?_
      simpa using hj
    exact ⟨F _ _ g0, F _ _ g1, F _ _ g2, F _ _ g3, F _ _ g4⟩
end Go.Proofs.YtgaknbnhmoddcaaGreatDoor
namespace Go.Proofs.YtgaknbnhmoddcaaGreatDoor
open Go.RowKit Go.Lib
/-- All older blocks stay but one, and but a slice's own. -/
def VK (r : Nat) (v : Value) (W W' : World) : Prop := Below r W W' ∧ ∀ (k : Nat) (o : Obj), W.heap[k]? = some o → k ≠ r → v.ownBlock ≠ some k → W'.heap[k]? = some o
theorem VK.refl (r : Nat) (v : Value) (W : World) : VK r v W W := ⟨Below.refl _ _, fun _ _ h _ _ => h⟩
theorem VK.rk {r : Nat} {v : Value} {W W' W'' : World} (h : VK r v W W') (h' : RK r W' W'') : VK r v W W'' := ⟨h.1.trans h'.1, fun k o hk hne hv => h'.2 k o (h.2 k o hk hne hv) hne⟩
theorem VK.trans {r : Nat} {v v1 : Value} {W W' W'' : World} (h : VK r v W W') (h' : VK r v1 W' W'') (ho : ∀ k, v1.ownBlock = some k → v.ownBlock = some k ∨ W.heap.size ≤ k) : VK r v W W'' :=
  ⟨h.1.trans h'.1, fun k o hk hne hv => h'.2 k o (h.2 k o hk hne hv) hne (fun e => by
    rcases ho k e with h1 | h1
    · exact hv h1
    · have := heap_lt hk; omega)⟩
theorem OwnC.below {B : Nat} {v : Value} {l : List Cel} {w w' : World} (h : OwnC B v l w) (hb : Below w.heap.size w w') : OwnC B v l w' := by
  obtain ⟨h1, h2⟩ := h
  refine ⟨h1, ?_⟩
  rcases h2 with h2 | ⟨g, cap, cur, hv, hB, hg, hrest⟩
  · exact Or.inl h2
  · exact Or.inr ⟨g, cap, cur, hv, hB, (hb.block g (heap_lt hg)).trans hg, hrest⟩
theorem OwnC.rk {B r : Nat} {v : Value} {l : List Cel} {w w' : World} (h : OwnC B v l w) (hk : RK r w w') (hr : r < B) : OwnC B v l w' := by
  obtain ⟨h1, h2⟩ := h
  refine ⟨h1, ?_⟩
  rcases h2 with h2 | ⟨g, cap, cur, hv, hB, hg, hrest⟩
  · exact Or.inl h2
  · exact Or.inr ⟨g, cap, cur, hv, hB, hk.2 g _ hg (by omega), hrest⟩
theorem OwnS.rk {B r : Nat} {v : Value} {l : List ByteArray} {w w' : World} (h : OwnS B v l w) (hk : RK r w w') (hr : r < B) : OwnS B v l w' := by
  obtain ⟨h1, h2⟩ := h
  refine ⟨h1, ?_⟩
  rcases h2 with h2 | ⟨g, cap, cur, hv, hB, hg, hrest⟩
  · exact Or.inl h2
  · exact Or.inr ⟨g, cap, cur, hv, hB, hk.2 g _ hg (by omega), hrest⟩
/-- Names and cells lie in two blocks. -/
theorem apartS {B B' : Nat} {nv v : Value} {l : List ByteArray} {L : List Cel} {W : World} (hn : OwnS B nv l W) (hc : OwnC B' v L W) (k : Nat) (h1 : nv.ownBlock = some k) (h2 : v.ownBlock = some k) : False := by
  rcases hn.2 with ⟨rfl, _⟩ | ⟨g, cap, cur, rfl, hB, hg, _⟩
  · cases h1
  rcases hc.2 with ⟨rfl, _⟩ | ⟨g', cap', cur', rfl, hB', hg', _⟩
  · cases h2
  have e1 : g = k := by simpa [Value.ownBlock] using h1
  have e2 : g' = k := by simpa [Value.ownBlock] using h2
  rw [e1] at hg
  rw [e2, hg] at hg'
  injection hg' with hg'
  injection hg' with h3 h4 h5
  exact absurd h4 (by decide)
theorem own_some {T : TypeId} {n B m : Nat} {v : Value} {xs : List Value} {W : World} (h : W.ownsRow B T n v m xs) : v.ownBlock = none ∨ ∃ g cap cur, v = .slice (some ⟨g, 0, none⟩) m cap ∧ v.ownBlock = some g ∧ B ≤ g ∧ W.heap[g]? = some (.cells cur T (0, 0)) := by
  rcases h.2 with ⟨rfl, _⟩ | ⟨g, cap, cur, rfl, hB, hg, _⟩
  · exact Or.inl rfl
  · exact Or.inr ⟨g, cap, cur, rfl, rfl, hB, hg⟩
theorem OwnS.vk {B B' r : Nat} {nv v : Value} {l : List ByteArray} {L : List Cel} {W W' : World} (hn : OwnS B nv l W) (hc : OwnC B' v L W) (hk : VK r v W W') (hr : r < B) : OwnS B nv l W' := by
  have hap := apartS hn hc
  obtain ⟨h1, h2⟩ := hn
  refine ⟨h1, ?_⟩
  rcases h2 with h2 | ⟨g, cap, cur, rfl, hB, hg, hrest⟩
  · exact Or.inl h2
  · exact Or.inr ⟨g, cap, cur, rfl, hB, hk.2 g _ hg (by omega) (fun e => hap g rfl e), hrest⟩
theorem celFlat_set4 : ∀ (L : List Cel) (k : Nat) (x : Int), celFlat (L.modify k fun c => { c with many := x }) = (celFlat L).set (k * 5 + 4) (.int .i64 x)
  | [], k, c => by simp [celFlat]
  | t :: r, 0, c => by simp [celFlat, List.modify_zero_cons]
  | t :: r, k + 1, c => by
    rw [List.modify_succ_cons, celFlat, celFlat, celFlat_set4 r k c, show (k + 1) * 5 + 4 = k * 5 + 4 + 1 + 1 + 1 + 1 + 1 from by omega]
    simp only [List.set_cons_succ]
/-- The own block, and the cells of one place. -/
theorem OwnC.form {B : Nat} {v : Value} {L : List Cel} {W : World} (h : OwnC B v L W) (k : Nat) (hk : k < L.length) : ∃ g cap, v = .slice (some ⟨g, 0, none⟩) L.length cap ∧ B ≤ g ∧ g < W.heap.size ∧ (∀ i, W.frozen? ⟨g, i, none⟩ = false) ∧
    W.cell? ⟨g, k * 5, none⟩ = some (.int .u8 (L[k].kind.toNat : Int)) ∧ W.cell? ⟨g, k * 5 + 2, none⟩ = some (.string ⟨L[k].text.toArray⟩) ∧ W.cell? ⟨g, k * 5 + 3, none⟩ = some (.int .i64 L[k].num) ∧ W.cell? ⟨g, k * 5 + 4, none⟩ = some (.int .i64 L[k].many) := by
  obtain ⟨h1, h2⟩ := h
  rcases h2 with ⟨rfl, h2⟩ | ⟨g, cap, cur, rfl, hB, hg, hn, hc, hcs, ht⟩
  · omega
  refine ⟨g, cap, rfl, hB, heap_lt hg, fun i => Lib.frozen_of_heap hg i, ?_⟩
  obtain ⟨g0, g1, g2, g3, g4⟩ := celFlat_get L k hk
  have F : ∀ j u, (celFlat L)[j]? = some u → W.cell? ⟨g, j, none⟩ = some u := by
    intro j u hj
    have hjl : j < L.length * 5 := by rw [← celFlat_len]; exact (List.getElem?_eq_some_iff.1 hj).1
    rw [← ht, List.getElem?_take, if_pos hjl] at hj
    refine (Lib.cell_of_heap hg j).trans ?_
    simpa using hj
  exact ⟨F _ _ g0, F _ _ g2, F _ _ g3, F _ _ g4⟩
theorem OwnC.set {B g i m cap : Nat} {v u : Value} {L L' : List Cel} {W : World} (h : OwnC B v L W) (hv : v = .slice (some ⟨g, 0, none⟩) m cap) (hl : L'.length = L.length) (hf : celFlat L' = (celFlat L).set i u) : OwnC B v L' (W.setCell ⟨g, i, none⟩ u) := by
  obtain ⟨h1, h2⟩ := h
  refine ⟨by rw [hl, hf, List.length_set]; exact h1, ?_⟩
  rcases h2 with ⟨rfl, h2⟩ | ⟨g', cap', cur, hv', hB, hg, hn, hc, hcs, ht⟩
  · cases hv
  · have e : g' = g := by rw [hv] at hv'; injection hv' with hv'; injection hv' with hv'; injection hv' with hv'; exact hv'.symm
    subst e
    refine Or.inr ⟨g', cap', cur.setIfInBounds i u, by rw [hl]; exact hv', hB, pset hg u rfl, by rw [hl]; exact hn, hc, by simp [hcs], ?_⟩
    rw [hl, hf, ← ht]
    simp [List.take_set]
theorem VK.set {r g i m cap : Nat} {v u : Value} {W : World} (hv : v = .slice (some ⟨g, 0, none⟩) m cap) (hr : r < g) : VK r v W (W.setCell ⟨g, i, none⟩ u) := by
  refine ⟨(Below.refl r W).setCell (p := ⟨g, i, none⟩) (Nat.le_of_lt hr) u, fun k o hk hne hvk => ?_⟩
  rw [Below.heap_setCell _ _ _ _ (fun e => hvk (by rw [hv]; simp only [Value.ownBlock]; first | exact congrArg some e | exact congrArg some e.symm))]
  exact hk
section
variable {r : Nat} {s : ByteArray} {w : World} {v0 v : Value} {out : List Cel} {E E' : Ex} {W W' : World}
end
end Go.Proofs.YtgaknbnhmoddcaaGreatDoor
namespace Go.Proofs.YtgaknbnhmoddcaaGreatDoor
open Go.RowKit
/-- The library's tables of UTF-8 hold what their text lays. -/
def EnvU (w : World) : Prop := Lib.Utf8Tabs (Tryz.lays196_ren.g 3) (Tryz.lays196_ren.g 4) w
theorem EnvU.below {w w' : World} (h : EnvU w) (hb : Below w.heap.size w w') : EnvU w' := Utf8Tabs_below h hb
set_option maxRecDepth 100000 in
theorem tcheck_any (s : ByteArray) (hs : s.size ≤ 1000000) (w : World) (hE : EnvU w) :
    Calls Tryz.prog 49 #[.string s] w fun e w' => e = .returned (.int .i64 (chkE s.data.toList)) ∧ Below w.heap.size w w' := by
  unfold chkE
  rw [show s.data.toList.length = s.size from by rw [Array.length_toList]; rfl]
  by_cases h : 16384 < s.size
  · rw [if_pos h]
    clear hE
    go_enter Tryz.func49, Tryz.ntmps49
    go_wp2_with fail
    go_ret
    exact ⟨rfl, Below.refl _ _⟩
  · rw [if_neg h]
    have H1 : Calls Tryz.prog 75 #[.string s] w fun e w' => e = .returned (.bool (Lib.validD s.data.toList)) ∧ Below w.heap.size w w' := Any.utf8_ValidString Tryz.lays196 s w (by omega) hE
    have h2 : s.size ≤ 16384 := by omega
    have HI := Lib.hid H1
    clear h hE H1
    generalize Lib.validD s.data.toList = r at *
    cases r
    all_goals
      go_enter Tryz.func49, Tryz.ntmps49
      go_wp2_with fail
      refine HI.out.mono ?_; rintro e w1 ⟨rfl, hb⟩
      go_wp2_with fail
      go_ret
      exact ⟨rfl, hb⟩
end Go.Proofs.YtgaknbnhmoddcaaGreatDoor
namespace Go.Proofs.YtgaknbnhmoddcaaGreatDoor
open Go.RowKit Go.Lib
/-- The program's reader. -/
def RdP (p : Nat) (b : ByteArray) (v : Value) (op : Int) (W : World) : Prop := W.heap[p]? = some (.cells #[.string b, v, .int .i64 op] 271 (0, 0))
theorem RdP.cells {p : Nat} {b : ByteArray} {v : Value} {op : Int} {W : World} (h : RdP p b v op W) :
    W.cell? ⟨p, 0, none⟩ = some (.string b) ∧ W.cell? ⟨p, 1, none⟩ = some v ∧ W.cell? ⟨p, 2, none⟩ = some (.int .i64 op) := by
  unfold RdP at h
  refine ⟨?_, ?_, ?_⟩
  all_goals (rw [Lib.cell_of_heap h]; rfl)
theorem RdP.below {p : Nat} {b : ByteArray} {v : Value} {op : Int} {W W' : World} (h : RdP p b v op W) (hb : Below W.heap.size W W') : RdP p b v op W' := (hb.block p (heap_lt h)).trans h
theorem RdP.lt {p : Nat} {b : ByteArray} {v : Value} {op : Int} {W : World} (h : RdP p b v op W) : p < W.heap.size := heap_lt h
theorem RdP.frozen {p : Nat} {b : ByteArray} {v : Value} {op : Int} {W : World} (h : RdP p b v op W) (i : Nat) : W.frozen? ⟨p, i, none⟩ = false := Lib.frozen_of_heap h i
theorem RdP.out_ {p : Nat} {b : ByteArray} {v : Value} {op : Int} {W : World} (h : RdP p b v op W) (v' : Value) : RdP p b v' op (W.setCell ⟨p, 1, none⟩ v') := pset h _ rfl
/-- It stands at what is left. -/
def PS (p : Nat) (l : List UInt8) (v : Value) (op : Int) (W : World) : Prop := ∃ b : ByteArray, b.data.toList = l ∧ RdP p b v op W
theorem PS.below {p : Nat} {l : List UInt8} {v : Value} {op : Int} {W W' : World} (h : PS p l v op W) (hb : Below W.heap.size W W') : PS p l v op W' := by
  obtain ⟨b, h1, h2⟩ := h; exact ⟨b, h1, h2.below hb⟩
theorem PS.lt {p : Nat} {l : List UInt8} {v : Value} {op : Int} {W : World} (h : PS p l v op W) : p < W.heap.size := by
  obtain ⟨b, h1, h2⟩ := h; exact h2.lt
theorem PS.same {p : Nat} {l : List UInt8} {v : Value} {op : Int} {W W' : World} (h : PS p l v op W) (hb : W'.heap[p]? = W.heap[p]?) : PS p l v op W' := by
  obtain ⟨b, h1, h2⟩ := h; exact ⟨b, h1, hb.trans h2⟩
/-- An error on its way out. -/
def stopL (e : Int) : List PanicEntry := [{ v := .iface 268 (.agg #[.int .i64 e]), recovered := false }]
theorem bsz (b : ByteArray) : b.data.toList.length = b.size := by rw [Array.length_toList]; rfl
end Go.Proofs.YtgaknbnhmoddcaaGreatDoor
namespace Go.Proofs.YtgaknbnhmoddcaaGreatDoor
open Go.RowKit
set_option maxHeartbeats 400000 in
theorem limit_any (s n : Int) (h : s = 0 ∨ s = 1) (w : World) :
    Calls Tryz.prog 148 #[.agg #[.int .i64 s, .int .u64 n]] w fun e w' => e = .returned (.int .u64 (9223372036854775807 + s)) ∧ Below w.heap.size w w' := by
  have hi0 : ∀ w, (Instr.index 226 (Value.agg #[Value.int IntKind.u64 9223372036854775807, Value.int IntKind.u64 9223372036854775808]) (Value.int IntKind.i64 0)).run Tryz.prog w = .ok (.int .u64 9223372036854775807) w := fun _ => by kernel_rfl
  have hi1 : ∀ w, (Instr.index 226 (Value.agg #[Value.int IntKind.u64 9223372036854775807, Value.int IntKind.u64 9223372036854775808]) (Value.int IntKind.i64 1)).run Tryz.prog w = .ok (.int .u64 9223372036854775808) w := fun _ => by kernel_rfl
  rcases h with rfl | rfl
  all_goals
    go_enter Tryz.func148, Tryz.ntmps148
    go_wp2
    go_ret
    exact ⟨rfl, (Below.refl _ _).alloc (Nat.le_refl _) _⟩
/-- The cells of a block just made, behind a call that only makes blocks. -/
theorem keep2 {w W w1 : World} {b : Nat} {x y : Value} (h : W.cell? ⟨b, 0, none⟩ = some x ∧ W.cell? ⟨b, 1, none⟩ = some y ∧ b < W.heap.size ∧ Below w.heap.size w W) (hb : Below W.heap.size W w1) (hw : w.heap.size ≤ W.heap.size) :
    w1.cell? ⟨b, 0, none⟩ = some x ∧ w1.cell? ⟨b, 1, none⟩ = some y ∧ b < w1.heap.size ∧ Below w.heap.size w w1 := by
  obtain ⟨h0, h1, h2, h3⟩ := h
  exact ⟨(hb.cell (p := ⟨b, 0, none⟩) h2).trans h0, (hb.cell (p := ⟨b, 1, none⟩) h2).trans h1, Nat.lt_of_lt_of_le h2 hb.size, h3.trans (hb.mono hw)⟩
set_option maxRecDepth 100000 in
set_option maxHeartbeats 1000000 in
theorem number_0 (n : Int) (h0 : 0 ≤ n) (h1 : n ≤ 18446744073709551615) (w : World) :
    Calls Tryz.prog 128 #[.agg #[.int .i64 0, .int .u64 n]] w fun e w' => e = .returned (.tuple #[.int .i64 (val n), .int .i64 (err n)]) ∧ Below w.heap.size w w' := by
  have L := Lib.hid (fun w => limit_any 0 n (by simp) w)
  go_enter Tryz.func128, Tryz.ntmps128
  go_wp2_with fail
  go_region_held3 (fun W => W.cell? ⟨w.heap.size, 0, none⟩ = some (.int .i64 0) ∧ W.cell? ⟨w.heap.size, 1, none⟩ = some (.int .u64 n) ∧ w.heap.size < W.heap.size ∧ Below w.heap.size w W) 
     (first | exact keep2 (by assumption) (by assumption) (by omega) | (refine ⟨by simp [go_sem], by simp [go_sem], by simp, ?_⟩; go_grown; done))
     (first | (refine (L.out _).mono ?_; rintro e w1 ⟨rfl, hb⟩))
  rename_i hS
  obtain ⟨hS0, hS1, hS2, hS3⟩ := hS
  go_wp2
  all_goals
    go_ret2
    refine ⟨ret2 ?_ ?_, hS3⟩
    all_goals
      go_light
      simp only [val, err, wrap64, IntKind.wrap_i64, IntKind.wrap_u64] at *
      (try simp at *) <;> (try split) <;> omega
set_option maxRecDepth 100000 in
set_option maxHeartbeats 1000000 in
theorem number_1 (n : Int) (h0 : 0 ≤ n) (h1 : n ≤ 18446744073709551615) (w : World) :
    Calls Tryz.prog 128 #[.agg #[.int .i64 1, .int .u64 n]] w fun e w' => e = .returned (.tuple #[.int .i64 (val (-n)), .int .i64 (err (-n))]) ∧ Below w.heap.size w w' := by
  have L := Lib.hid (fun w => limit_any 1 n (by simp) w)
  go_enter Tryz.func128, Tryz.ntmps128
  go_wp2_with fail
  go_region_held3 (fun W => W.cell? ⟨w.heap.size, 0, none⟩ = some (.int .i64 1) ∧ W.cell? ⟨w.heap.size, 1, none⟩ = some (.int .u64 n) ∧ w.heap.size < W.heap.size ∧ Below w.heap.size w W) 
     (first | exact keep2 (by assumption) (by assumption) (by omega) | (refine ⟨by simp [go_sem], by simp [go_sem], by simp, ?_⟩; go_grown; done))
     (first | (refine (L.out _).mono ?_; rintro e w1 ⟨rfl, hb⟩))
  rename_i hS
  obtain ⟨hS0, hS1, hS2, hS3⟩ := hS
  go_wp2
  all_goals
    go_ret2
    refine ⟨ret2 ?_ ?_, hS3⟩
    all_goals
      go_light
      simp only [val, err, wrap64, IntKind.wrap_i64, IntKind.wrap_u64] at *
      (try simp at *) <;> (try split) <;> omega
end Go.Proofs.YtgaknbnhmoddcaaGreatDoor
namespace Go.Proofs.YtgaknbnhmoddcaaGreatDoor
open Go.RowKit

/-- What a variable holds, it holds behind a call that only makes blocks. -/
theorem var_stays {P : Program} {w w' : World} {n : String} {cs : Array Value} (hv : w.var? P n = some cs) (hb : Below w.heap.size w w') : w'.var? P n = some cs := by
  unfold World.var? at hv
  obtain ⟨g, hg, h2⟩ := Option.bind_eq_some_iff.1 hv
  have hlt : g < w.heap.size := by
    rcases Nat.lt_or_ge g w.heap.size with h | h
    · exact h
    · rw [Array.getElem?_eq_none h] at h2; cases h2
  unfold World.var?
  rw [hg]
  simp only [Option.bind_some]
  rw [hb.block g hlt]; exact h2
/-- What the library's variable holds. -/
structure Env (w : World) : Prop where
  rng : ∃ tp p, w.var? Tryz.prog "strconv.ErrRange" = some #[.iface tp p]
theorem Env.stays {w w' : World} (h : Env w) (hb : Below w.heap.size w w') : Env w' :=
  ⟨let ⟨tp, p, hv⟩ := h.rng; ⟨tp, p, var_stays hv hb⟩⟩
theorem Env.below {B : Nat} {w w' : World} (h : Env w) (hb : Below B w w') (hB : w.heap.size ≤ B) : Env w' := h.stays (hb.mono hB)
theorem cut_dash (s b : ByteArray) (bl : Bool) (hb : b.data.toList = body s.data.toList) (hbl : below s.data.toList = bl) (w : World) :
    Calls Tryz.prog 125 #[.string s, .string ⟨#[45]⟩] w fun e w' => e = .returned (.tuple #[.string b, .bool bl]) ∧ w = w' :=
  (Tryz.strings_CutPrefix s ⟨#[45]⟩ w).mono fun e w' ⟨he, hw⟩ => ⟨by
    rw [he, show (⟨#[45]⟩ : ByteArray).data.toList = [45] from rfl, trimPrefix_dash, hasPrefix_dash, hbl, ← hb], hw.symm⟩
theorem trim_any (b : ByteArray) (hs : b.size ≤ 9223372036854775807) (w : World) :
    Calls Tryz.prog 126 #[.string b, .string ⟨#[48, 49, 50, 51, 52, 53, 54, 55, 56, 57]⟩] w fun e w' => e = .returned (.string ⟨(Lib.trimS b.data.toList [48, 49, 50, 51, 52, 53, 54, 55, 56, 57]).toArray⟩) ∧ Below w.heap.size w w' :=
  Any.strings_Trim_laid Tryz.lays160 (by kernel_rfl) b ⟨#[48, 49, 50, 51, 52, 53, 54, 55, 56, 57]⟩ w hs (by decide) (ascii_of_all (by decide))
theorem ne_nil (b : ByteArray) (h : 0 < b.size) : ¬ b.toList = [] := by
  rw [ByteArray.toList_eq]
  intro e
  have : b.data.toList.length = 0 := by rw [e]; rfl
  rw [Array.length_toList] at this
  change 0 < b.data.size at h; omega
theorem trim_to (b t : ByteArray) (hs : b.size ≤ 9223372036854775807) (ht : (Lib.trimS b.data.toList [48, 49, 50, 51, 52, 53, 54, 55, 56, 57]).toArray = t.data) (w : World) :
    Calls Tryz.prog 126 #[.string b, .string ⟨#[48, 49, 50, 51, 52, 53, 54, 55, 56, 57]⟩] w fun e w' => e = .returned (.string t) ∧ Below w.heap.size w w' :=
  (trim_any b hs w).mono fun e w' ⟨he, hw⟩ => ⟨by rw [he, ht], hw⟩
theorem below_freeze {B : Nat} {w w' : World} (h : Below B w w') {a : Addr} (ha : B ≤ a.block) (n : Nat) : Below B w (w'.freeze a n) := by
  unfold World.freeze
  split
  · exact h
  · exact ⟨h.os, h.tape, h.output, by show _ ≤ (Array.modify _ _ _).size; rw [Array.size_modify]; exact h.size, fun i hi => by
      show (Array.modify _ _ _)[i]? = _
      rw [Array.getElem?_modify, if_neg (by omega)]; exact h.block i hi⟩
theorem below_bytes (w : World) (t : TypeId) (s : ByteArray) : Below w.heap.size w (Lib.bytesWorld w t s) :=
  below_freeze (((Below.refl _ _).drew).alloc (Nat.le_refl _) _) (Nat.le_refl _) 1
theorem parse_in (b : ByteArray) (hs : b.size ≤ 281474976710656) (hd : digitsB b.data.toList = true) (hn : num b.data.toList ≤ 18446744073709551615) (w : World) :
    Calls Tryz.prog 127 #[.string b, .int .i64 10, .int .i64 64] w fun e w' => e = .returned (.tuple #[.int .u64 (num b.data.toList : Int), .nilIface]) ∧ Below w.heap.size w w' :=
  (Tryz.strconv_ParseUint_10_at64_ok b (by omega) _ (parse_ok _ hd hn) w).mono fun e w' ⟨he, hw⟩ => ⟨he, by rcases hw with rfl | rfl; exact Below.refl _ _; exact below_bytes _ _ _⟩
/-- An error came. -/
def Over (w : World) (e : Ending) (w' : World) : Prop := ∃ a : Addr, e = .returned (.tuple #[.int .u64 18446744073709551615, .iface 223 (.pointer (some a))]) ∧ Below w.heap.size w w'
theorem parse_out (b : ByteArray) (hs : b.size ≤ 281474976710656) (hd : digitsB b.data.toList = true) (hn : ¬ num b.data.toList ≤ 18446744073709551615) (w : World) (he : Env w) :
    Calls Tryz.prog 127 #[.string b, .int .i64 10, .int .i64 64] w (Over w) := by
  obtain ⟨tp, p, hv⟩ := he.rng
  exact (Tryz.strconv_ParseUint_10_at64_range_var b hs (parse_range _ hd hn) tp p w hv).mono fun e w' ⟨N, he, _, _, hb⟩ => ⟨_, he, hb⟩
/-- A block just made, behind calls that only make blocks. -/
theorem own2 {w w1 : World} {x y : Value} {t : TypeId} (hb : Below (w.alloc (.cells #[x, y] t)).heap.size (w.alloc (.cells #[x, y] t)) w1) :
    w1.cell? ⟨w.heap.size, 0, none⟩ = some x ∧ w1.cell? ⟨w.heap.size, 1, none⟩ = some y ∧ w1.frozen? ⟨w.heap.size, 0, none⟩ = false ∧ w1.frozen? ⟨w.heap.size, 1, none⟩ = false ∧ w.heap.size < w1.heap.size ∧ Below w.heap.size w w1 := by
  have hsz : (w.alloc (.cells #[x, y] t)).heap.size = w.heap.size + 1 := World.size_alloc _ _
  rw [hsz] at hb
  have hz := hb.size
  refine ⟨?_, ?_, ?_, ?_, by omega, ((Below.refl _ _).alloc (Nat.le_refl _) _).trans (hb.mono (Nat.le_succ _))⟩
  · rw [hb.cell (p := ⟨w.heap.size, 0, none⟩) (by simp)]; simp [go_sem]
  · rw [hb.cell (p := ⟨w.heap.size, 1, none⟩) (by simp)]; simp [go_sem]
  · rw [hb.frozen (p := ⟨w.heap.size, 0, none⟩) (by simp)]; simp [go_sem]
  · rw [hb.frozen (p := ⟨w.heap.size, 1, none⟩) (by simp)]; simp [go_sem]
theorem rdV_of {l b : List UInt8} {bl : Bool} (hb : b = body l) (hbl : below l = bl) : rdV l = if okDigits b then val (if bl then -(num b : Int) else num b) else 0 := by unfold rdV signed; rw [hbl, ← hb]
theorem rdE_of {l b : List UInt8} {bl : Bool} (hb : b = body l) (hbl : below l = bl) : rdE l = if okDigits b then err (if bl then -(num b : Int) else num b) else 21 := by unfold rdE signed; rw [hbl, ← hb]
set_option maxRecDepth 100000 in
set_option maxHeartbeats 1000000 in
theorem read_ok (s b : ByteArray) (bl : Bool) (hb : b.data.toList = body s.data.toList) (hbl : below s.data.toList = bl) (hs : s.size ≤ 281474976710656) (hbs : b.size ≤ s.size) (hd : digitsB b.data.toList = true)
    (z z1 : Bool) (hp : 0 < b.size) (hz : ((b[0].toNat : Int) == 48) = z) (hz1 : (b.toList == [48]) = z1) (hzz : z = true → z1 = true) (hok : okDigits b.data.toList = true) (hin : num b.data.toList ≤ 18446744073709551615) (w : World) (he : Env w) :
    Calls Tryz.prog 111 #[.string s] w fun e w' => e = .returned (.tuple #[.int .i64 (rdV s.data.toList), .int .i64 (rdE s.data.toList)]) ∧ Below w.heap.size w w' := by
  have HC := Lib.hid (fun w => cut_dash s b bl hb hbl w)
  have HV := Lib.hid (rdV_of hb hbl)
  have HE := Lib.hid (rdE_of hb hbl)
  have hne := ne_nil b hp
  have hne2 : b.toList.isEmpty = false := by simpa using hne
  have ht : Lib.trimS b.data.toList [48, 49, 50, 51, 52, 53, 54, 55, 56, 57] = [] := (trim_digits _).2 (by simp only [digitsB, Bool.and_eq_true] at hd; exact hd.1)
  have HT := Lib.hid (fun w => trim_to b ⟨#[]⟩ (by omega) (by rw [ht]) w)
  have HP := Lib.hid (fun w => parse_in b (by omega) hd hin w)
  have HK := Lib.hid hok
  clear hb hbl ht hd hok
  have hcase : z = false ∨ (z = true ∧ z1 = true) := by cases z <;> simp_all
  clear hzz
  cases bl
  all_goals
    rcases hcase with rfl | ⟨rfl, rfl⟩
  all_goals
    go_enter Tryz.func111, Tryz.ntmps111
    go_wp2_with fail
    refine (HC.out _).mono ?_; rintro e w1 ⟨rfl, rfl⟩
    go_wp2_with fail
    refine (HT.out _).mono ?_; rintro e w1 ⟨rfl, hb1⟩
    go_wp2_with fail
    refine (HP.out _).mono ?_; rintro e w2 ⟨rfl, hb2⟩
    obtain ⟨c0, c1, f0, f1, hlt, hbw⟩ := own2 (hb1.trans (hb2.mono hb1.size))
    go_wp2_with fail
    first
      | ((with_reducible refine (number_0 _ (Int.natCast_nonneg _) (by omega) _).mono ?_); rintro e w3 ⟨rfl, hb3⟩)
      | ((with_reducible refine (number_1 _ (Int.natCast_nonneg _) (by omega) _).mono ?_); rintro e w3 ⟨rfl, hb3⟩)
    have hz3 : (w2.setCell { block := w.heap.size, off := 1 } (Value.int IntKind.u64 (num b.data.toList : Int))).heap.size = w2.heap.size := World.size_setCell _ _ _
    rw [hz3] at hb3
    clear hz3
    go_wp2_with fail
    go_ret2
    exact ⟨ret2 (by rw [HV.out, HK.out]; rfl) (by rw [HE.out, HK.out]; rfl), (hbw.setCell (Nat.le_refl _) _).trans (hb3.mono (Nat.le_of_lt hlt))⟩
set_option maxRecDepth 100000 in
set_option maxHeartbeats 1000000 in
theorem read_over (s b : ByteArray) (bl : Bool) (hb : b.data.toList = body s.data.toList) (hbl : below s.data.toList = bl) (hs : s.size ≤ 281474976710656) (hbs : b.size ≤ s.size) (hd : digitsB b.data.toList = true)
    (z z1 : Bool) (hp : 0 < b.size) (hz : ((b[0].toNat : Int) == 48) = z) (hz1 : (b.toList == [48]) = z1) (hzz : z = true → z1 = true) (hok : okDigits b.data.toList = true) (hin : ¬ num b.data.toList ≤ 18446744073709551615) (w : World) (he : Env w) :
    Calls Tryz.prog 111 #[.string s] w fun e w' => e = .returned (.tuple #[.int .i64 (rdV s.data.toList), .int .i64 (rdE s.data.toList)]) ∧ Below w.heap.size w w' := by
  have HC := Lib.hid (fun w => cut_dash s b bl hb hbl w)
  have HV := Lib.hid (rdV_of hb hbl)
  have HE := Lib.hid (rdE_of hb hbl)
  have hne := ne_nil b hp
  have hne2 : b.toList.isEmpty = false := by simpa using hne
  have ht : Lib.trimS b.data.toList [48, 49, 50, 51, 52, 53, 54, 55, 56, 57] = [] := (trim_digits _).2 (by simp only [digitsB, Bool.and_eq_true] at hd; exact hd.1)
  have HT := Lib.hid (fun w => trim_to b ⟨#[]⟩ (by omega) (by rw [ht]) w)
  have HP := Lib.hid (fun w (he : Env w) => parse_out b (by omega) hd hin w he)
  have HK := Lib.hid hok
  have hov : ¬ R (if bl then -(num b.data.toList : Int) else num b.data.toList) := by unfold R; cases bl <;> simp <;> omega
  have HO := Lib.hid hov
  have HEnv := Lib.hid he
  clear hb hbl ht hd hok hov he hin
  have hcase : z = false ∨ (z = true ∧ z1 = true) := by cases z <;> simp_all
  clear hzz
  cases bl
  all_goals
    rcases hcase with rfl | ⟨rfl, rfl⟩
  all_goals
    go_enter Tryz.func111, Tryz.ntmps111
    go_wp2_with fail
    refine (HC.out _).mono ?_; rintro e w1 ⟨rfl, rfl⟩
    go_wp2_with fail
    refine (HT.out _).mono ?_; rintro e w1 ⟨rfl, hb1⟩
    go_wp2_with fail
    refine (HP.out _ (HEnv.out.below (((Below.refl _ _).alloc (Nat.le_refl _) _).trans (hb1.mono (by simp))) (Nat.le_refl _))).mono ?_; rintro e w2 ⟨a, rfl, hb2⟩
    have hbw := (own2 (hb1.trans (hb2.mono hb1.size))).2.2.2.2.2
    go_wp2_with fail
    go_ret2
    exact ⟨ret2 (by rw [HV.out, HK.out]; exact (val_out HO.out).symm) (by rw [HE.out, HK.out]; exact (err_out HO.out).symm), hbw⟩
set_option maxRecDepth 100000 in
set_option maxHeartbeats 1000000 in
theorem read_zero (s b : ByteArray) (bl : Bool) (hb : b.data.toList = body s.data.toList) (hbl : below s.data.toList = bl) (hs : s.size ≤ 281474976710656) (hbs : b.size ≤ s.size) (hd : digitsB b.data.toList = true)
    (hp : 0 < b.size) (hz : ((b[0].toNat : Int) == 48) = true) (hz1 : (b.toList == [48]) = false) (hok : okDigits b.data.toList = false) (w : World) (he : Env w) :
    Calls Tryz.prog 111 #[.string s] w fun e w' => e = .returned (.tuple #[.int .i64 (rdV s.data.toList), .int .i64 (rdE s.data.toList)]) ∧ Below w.heap.size w w' := by
  have HC := Lib.hid (fun w => cut_dash s b bl hb hbl w)
  have HV := Lib.hid (rdV_of hb hbl)
  have HE := Lib.hid (rdE_of hb hbl)
  have hne := ne_nil b hp
  have hne2 : b.toList.isEmpty = false := by simpa using hne
  have ht : Lib.trimS b.data.toList [48, 49, 50, 51, 52, 53, 54, 55, 56, 57] = [] := (trim_digits _).2 (by simp only [digitsB, Bool.and_eq_true] at hd; exact hd.1)
  have HT := Lib.hid (fun w => trim_to b ⟨#[]⟩ (by omega) (by rw [ht]) w)
  have HK := Lib.hid hok
  clear hb hbl ht hd hok he
  cases bl
  all_goals
    go_enter Tryz.func111, Tryz.ntmps111
    go_wp2_with fail
    refine (HC.out _).mono ?_; rintro e w1 ⟨rfl, rfl⟩
    go_wp2_with fail
    refine (HT.out _).mono ?_; rintro e w1 ⟨rfl, hb1⟩
    go_wp2_with fail
    have hbw := (own2 hb1).2.2.2.2.2
    go_ret2
    exact ⟨ret2 (by rw [HV.out, HK.out]; rfl) (by rw [HE.out, HK.out]; rfl), hbw⟩
set_option maxRecDepth 100000 in
set_option maxHeartbeats 1000000 in
theorem read_odd (s b : ByteArray) (bl : Bool) (hb : b.data.toList = body s.data.toList) (hbl : below s.data.toList = bl) (hs : s.size ≤ 281474976710656) (hbs : b.size ≤ s.size) (hd : b.data.toList.all isDig = false)
    (hp : 0 < b.size) (w : World) (he : Env w) :
    Calls Tryz.prog 111 #[.string s] w fun e w' => e = .returned (.tuple #[.int .i64 (rdV s.data.toList), .int .i64 (rdE s.data.toList)]) ∧ Below w.heap.size w w' := by
  have HC := Lib.hid (fun w => cut_dash s b bl hb hbl w)
  have HV := Lib.hid (rdV_of hb hbl)
  have HE := Lib.hid (rdE_of hb hbl)
  have hne := ne_nil b hp
  have hne2 : b.toList.isEmpty = false := by simpa using hne
  have HK := Lib.hid (not_ok_dig b.data.toList (by unfold digitsB; rw [hd]; rfl))
  have ht : ¬ Lib.trimS b.data.toList [48, 49, 50, 51, 52, 53, 54, 55, 56, 57] = [] := fun h => by rw [(trim_digits _).1 h] at hd; cases hd
  obtain ⟨t, htt⟩ : ∃ t : ByteArray, (Lib.trimS b.data.toList [48, 49, 50, 51, 52, 53, 54, 55, 56, 57]).toArray = t.data := ⟨⟨_⟩, rfl⟩
  have hnt : ¬ t.toList = [] := by
    rw [ByteArray.toList_eq, ← htt]; exact ht
  have hnt2 : t.toList.isEmpty = false := by simpa using hnt
  have HT := Lib.hid (fun w => trim_to b t (by omega) htt w)
  clear hb hbl ht hd he htt
  cases bl
  all_goals
    go_enter Tryz.func111, Tryz.ntmps111
    go_wp2_with fail
    refine (HC.out _).mono ?_; rintro e w1 ⟨rfl, rfl⟩
    go_wp2_with fail
    refine (HT.out _).mono ?_; rintro e w1 ⟨rfl, hb1⟩
    go_wp2_with fail
    have hbw := (own2 hb1).2.2.2.2.2
    go_ret2
    exact ⟨ret2 (by rw [HV.out, HK.out]; rfl) (by rw [HE.out, HK.out]; rfl), hbw⟩
set_option maxRecDepth 100000 in
set_option maxHeartbeats 1000000 in
theorem read_empty (s b : ByteArray) (bl : Bool) (hb : b.data.toList = body s.data.toList) (hbl : below s.data.toList = bl) (hs : s.size ≤ 281474976710656) (hbs : b.size ≤ s.size) (hp : b.size = 0) (w : World) (he : Env w) :
    Calls Tryz.prog 111 #[.string s] w fun e w' => e = .returned (.tuple #[.int .i64 (rdV s.data.toList), .int .i64 (rdE s.data.toList)]) ∧ Below w.heap.size w w' := by
  have HC := Lib.hid (fun w => cut_dash s b bl hb hbl w)
  have HV := Lib.hid (rdV_of hb hbl)
  have HE := Lib.hid (rdE_of hb hbl)
  have hbe : b = ⟨#[]⟩ := ByteArray.ext (Array.eq_empty_of_size_eq_zero hp)
  have HK := Lib.hid (not_ok_dig b.data.toList (by rw [hbe]; rfl))
  clear hb hbl he hp
  subst hbe
  cases bl
  all_goals
    go_enter Tryz.func111, Tryz.ntmps111
    go_wp2_with fail
    refine (HC.out _).mono ?_; rintro e w1 ⟨rfl, rfl⟩
    go_wp2_with fail
    go_ret2
    exact ⟨ret2 (by rw [HV.out, HK.out]; rfl) (by rw [HE.out, HK.out]; rfl), (Below.refl _ _).alloc (Nat.le_refl _) _⟩
theorem zero_only (b : ByteArray) (hp : 0 < b.size) (hz : (b[0].toNat : Int) = 48) : (b.toList == [48]) = decide (b.size ≤ 1) := by
  rw [ByteArray.toList_eq]
  obtain ⟨c, r, hl⟩ : ∃ c r, b.data.toList = c :: r := by
    cases hl : b.data.toList with
    | nil => have h2 : b.data.toList.length = 0 := by rw [hl]; rfl
             rw [Array.length_toList] at h2; change 0 < b.data.size at hp; omega
    | cons c r => exact ⟨c, r, rfl⟩
  have e : b[0] = c := by
    have : b.data.toList[0]? = some b[0] := by rw [List.getElem?_eq_getElem (by simpa using hp)]; rfl
    rw [hl] at this; simpa using this.symm
  have hc : c = 48 := UInt8.toNat_inj.1 (by rw [e] at hz; have : (48 : UInt8).toNat = 48 := rfl; omega)
  have hsz : b.size = r.length + 1 := by
    have : b.data.toList.length = r.length + 1 := by rw [hl]; rfl
    rw [Array.length_toList] at this; exact this
  rw [hl, hc, hsz]
  cases r with
  | nil => rfl
  | cons d q => simp
theorem read_any (s : ByteArray) (hs : s.size ≤ 281474976710656) (w : World) (he : Env w) :
    Calls Tryz.prog 111 #[.string s] w fun e w' => e = .returned (.tuple #[.int .i64 (rdV s.data.toList), .int .i64 (rdE s.data.toList)]) ∧ Below w.heap.size w w' := by
  obtain ⟨b, hb⟩ : ∃ b : ByteArray, b.data.toList = body s.data.toList := ⟨⟨(body s.data.toList).toArray⟩, rfl⟩
  have hbs : b.size ≤ s.size := by
    have h : b.data.toList.length ≤ s.data.toList.length := by rw [hb]; unfold body; split <;> simp
    simp only [Array.length_toList] at h; exact h
  rcases Nat.eq_zero_or_pos b.size with h0 | hp
  · exact read_empty s b _ hb rfl hs hbs h0 w he
  cases hd : b.data.toList.all isDig with
  | false => exact read_odd s b _ hb rfl hs hbs hd hp w he
  | true =>
    have hne : b.data.toList.isEmpty = false := by
      have := ne_nil b hp
      rw [ByteArray.toList_eq] at this; simpa using this
    have hdig : digitsB b.data.toList = true := by unfold digitsB; rw [hd, hne]; rfl
    by_cases hz : (b[0].toNat : Int) = 48
    · have h1 := zero_only b hp hz
      by_cases hs1 : b.size ≤ 1
      · have hok := ok_size b hdig hp (fun _ => hs1)
        by_cases hin : num b.data.toList ≤ 18446744073709551615
        · exact read_ok s b _ hb rfl hs hbs hdig true true hp (by simpa using hz) (by rw [h1]; simpa using hs1) (fun _ => rfl) hok hin w he
        · exact read_over s b _ hb rfl hs hbs hdig true true hp (by simpa using hz) (by rw [h1]; simpa using hs1) (fun _ => rfl) hok hin w he
      · exact read_zero s b _ hb rfl hs hbs hdig hp (by simpa using hz) (by rw [h1]; simpa using hs1) (not_ok_zero b hp hz (by omega)) w he
    · have hok := ok_size b hdig hp (fun h => absurd h hz)
      by_cases hin : num b.data.toList ≤ 18446744073709551615
      · exact read_ok s b _ hb rfl hs hbs hdig false _ hp (by simpa using hz) rfl (fun h => by cases h) hok hin w he
      · exact read_over s b _ hb rfl hs hbs hdig false _ hp (by simpa using hz) rfl (fun h => by cases h) hok hin w he
end Go.Proofs.YtgaknbnhmoddcaaGreatDoor
namespace Go.Proofs.YtgaknbnhmoddcaaGreatDoor
open Go.RowKit Go.Lib
def headE (n : Nat) (l : List UInt8) : Ex := if n = 0 then .ok l else blE (tkE [44] (.ok l))
theorem VaE.head {n : Nat} {l : List UInt8} (h : validD l = true) : VaE (headE n l) := by
  unfold headE
  split
  · exact h
  · exact VaE.bl (VaE.tk (E := .ok l) h (by decide))
end Go.Proofs.YtgaknbnhmoddcaaGreatDoor
namespace Go.Proofs.YtgaknbnhmoddcaaGreatDoor
open Go.RowKit Go.Lib
/-- The reader's state, behind a world that it began in. -/
structure VP (p : Nat) (w : World) (v0 v : Value) (out : List Cel) (l : List UInt8) (op : Int) (W : World) : Prop where
  st : PS p l v op W
  own : OwnC (p + 1) v out W
  vk : VK p v0 w W
  ob : ∀ k, v.ownBlock = some k → v0.ownBlock = some k ∨ w.heap.size ≤ k
section
variable {p : Nat} {w : World} {v0 v : Value} {out : List Cel} {l l' : List UInt8} {op op' : Int} {W W' : World}
theorem VP.size (h : VP p w v0 v out l op W) : w.heap.size ≤ W.heap.size := h.vk.1.size
theorem VP.rk (h : VP p w v0 v out l op W) (hs : PS p l' v op' W') (hk : RK p W W') : VP p w v0 v out l' op' W' := ⟨hs, h.own.rk hk (Nat.lt_succ_self p), h.vk.rk hk, h.ob⟩
theorem VP.below (h : VP p w v0 v out l op W) (hb : Below W.heap.size W W') : VP p w v0 v out l op W' := h.rk (h.st.below hb) (RK.of_below hb h.st.lt)
theorem VP.alloc (h : VP p w v0 v out l op W) (o : Obj) : VP p w v0 v out l op (W.alloc o) := h.below ((Below.refl W.heap.size W).alloc (Nat.le_refl _) _)
theorem VP.drewN (h : VP p w v0 v out l op W) (n : Nat) : VP p w v0 v out l op (W.drewN n) := h.below (below_dN n (Below.refl _ _))
theorem PS.out_ (h : PS p l v op W) (v' : Value) : PS p l v' op (W.setCell ⟨p, 1, none⟩ v') := by
  obtain ⟨b, h1, h2⟩ := h; exact ⟨b, h1, h2.out_ v'⟩
theorem VP.grown {v' : Value} {out' : List Cel} {H : Nat} (h : VP p w v0 v out l op W) (ho : OwnC (p + 1) v' out' W') (hg : W.grownBy W' v.ownBlock) (hat : v'.ownBlock = v.ownBlock ∨ v'.ownBlock = some H) (hH : W.heap.size = H) : PS p l v op W' ∧ VP p w v0 v' out' l op (W'.setCell ⟨p, 1, none⟩ v') := by
  have hlt := h.st.lt
  have hne : some p ≠ v.ownBlock := fun e => by
    rcases own_some h.own with h0 | ⟨g, _, _, _, h0, h1, _⟩
    · rw [h0] at e; cases e
    · rw [h0] at e; injection e with e; omega
  have hst : PS p l v op W' := h.st.same (hg.block p hlt hne)
  have hvk : VK p v W W' := by
    refine ⟨(Below.refl p W).grown hg (Nat.le_of_lt hlt) (fun k hk => ?_), fun k o hk hne2 hv => ?_⟩
    · rcases own_some h.own with h0 | ⟨g, _, _, _, h0, h1, _⟩
      · rw [h0] at hk; cases hk
      · rw [h0] at hk; injection hk with hk; omega
    · rw [hg.block k (heap_lt hk) (fun e => hv e.symm)]; exact hk
  refine ⟨hst, hst.out_ v', ho.rk (RK.set p 1 _ _) (Nat.lt_succ_self p), (h.vk.trans hvk h.ob).rk (RK.set p 1 _ _), fun k hk => ?_⟩
  rcases hat with e | e
  · exact h.ob k (e ▸ hk)
  · rw [e] at hk; injection hk with hk
    have := h.size
    rw [hH] at this
    exact Or.inr (by omega)
theorem VP.set {g i m cap : Nat} {u : Value} {out' : List Cel} (h : VP p w v0 v out l op W) (hv : v = .slice (some ⟨g, 0, none⟩) m cap) (hr : p < g) (hl : out'.length = out.length) (hf : celFlat out' = (celFlat out).set i u) : VP p w v0 v out' l op (W.setCell ⟨g, i, none⟩ u) := by
  refine ⟨h.st.same ?_, h.own.set hv hl hf, h.vk.trans (VK.set hv hr) h.ob, h.ob⟩
  exact Below.heap_setCell _ _ _ _ (by show p ≠ g; omega)
end
/-- Where a value ends. -/
def VPE (p : Nat) (w : World) (v0 : Value) (op : Int) (o : Except Int (List UInt8 × List Cel)) (x : Ending) (W : World) : Prop := match o with
  | .error e => x = .panicked (stopL e) ∧ Below p w W
  | .ok (t, out') => x = .returned (.tuple #[]) ∧ out'.length ≤ 2048 ∧ ∃ v', VP p w v0 v' out' t op W
end Go.Proofs.YtgaknbnhmoddcaaGreatDoor
namespace Go.Proofs.YtgaknbnhmoddcaaGreatDoor
open Go.RowKit
theorem dec_at (s : ByteArray) (a : Nat) (h : a < s.size) : Lib.decodeGo (s.extract a s.size) = Lib.decodeL (s.data.toList.drop a) := by
  have hl : (s.extract a s.size).data.toList = s.data.toList.drop a := by
    have h5 := ext_list s a (s.size - a)
    rw [show a + (s.size - a) = s.size from by omega, ByteArray.toList_eq, List.take_of_length_le (by rw [List.length_drop, Array.length_toList]; show s.data.size - a ≤ s.size - a; exact Nat.le_refl _)] at h5
    exact h5
  have hz : (s.extract a s.size).size ≠ 0 := by simp; omega
  unfold Lib.decodeGo
  rw [if_neg hz]
  have := Lib.decodeL_drop (s.extract a s.size) 0
  rw [List.drop_zero, hl] at this
  exact this.symm
end Go.Proofs.YtgaknbnhmoddcaaGreatDoor
namespace Go.Proofs.YtgaknbnhmoddcaaGreatDoor
open Go.RowKit Go.Lib
theorem acons {P : Program} {ops : Array Oper} {Q : Exit → Act → World → Prop} {md : Region.Mode} {S : World → Prop} (i : Nat) {fuel : Nat} {listed : Array Bool} {a : Act} {w : World} {o : Oper} {rs : List Nat} (ho : ops.toList[i]? = some o)
    (h : ∀ K' : Act → World → Prop, Shut (∀ a w, S w → (S w → wpAnyH P md ops Q S fuel (listed.setIfInBounds i true) a w) → K' a w) → if Region.wanted o (yielded ops a.tmps) = true then Oper.wp P o a w K' Q else K' (a.put o.dst undef) w)
    (hs : AllReadyH P md ops Q S fuel listed a w rs) : AllReadyH P md ops Q S fuel listed a w (i :: rs) :=
  AllReadyH.cons (by rw [← Array.getElem?_toList]; exact ho) h hs
end Go.Proofs.YtgaknbnhmoddcaaGreatDoor
namespace Go.Proofs.YtgaknbnhmoddcaaGreatDoor
open Go.RowKit Go.Maps
theorem names_keyed : Keyed Tryz.prog 9 := string_keyed Tryz.underlying9
theorem names_zero (w : World) : (zeroValue 3).run Tryz.prog w = .ok (.int .i64 0) w := by kernel_rfl
theorem names_key (x : ByteArray) (h : x.size ≤ maxLen) : keyOf Tryz.prog 9 (.string x) = some (.string x.data.toList) := Go.WideMaps.keyOf_string_mk Tryz.underlying9 h
/-- A map of the call's own that holds 1 at each of some names, and nothing else. -/
def NamesM (bm : Nat) (L : List (List UInt8)) (W : World) : Prop := ∃ (n : Nat) (D : DataW Unit), n ≤ L.length ∧ W.ownsMap Tryz.prog 9 (plainElem Tryz.prog 3) bm n D ∧ IsMap D ∧
  ∀ x : List UInt8, D.atKey (.string x) (.lit (.int .i64 0)) = .lit (.int .i64 (if amongB L x then 1 else 0))
theorem NamesM.made (W : World) : NamesM W.heap.size [] (W.alloc (.map #[] 0)) :=
  ⟨0, .map [], Nat.le_refl _, World.ownsMap_made _ _ _ _, isMap_empty, fun x => rfl⟩
theorem NamesM.lt {bm : Nat} {L : List (List UInt8)} {W : World} (h : NamesM bm L W) : bm < W.heap.size := by
  obtain ⟨n, D, _, h, _⟩ := h; exact h.lt
theorem NamesM.keep {bm : Nat} {L : List (List UInt8)} {W W' : World} (h : NamesM bm L W) (he : W'.heap[bm]? = W.heap[bm]?) : NamesM bm L W' := by
  obtain ⟨n, D, h0, ⟨es, clock, hb, F, hs, hD⟩, h2⟩ := h
  exact ⟨n, D, h0, ⟨es, clock, he.trans hb, F, hs, hD⟩, h2⟩
theorem NamesM.below {bm : Nat} {L : List (List UInt8)} {W W' : World} (h : NamesM bm L W) (hb : Below W.heap.size W W') : NamesM bm L W' := h.keep (hb.block bm h.lt)
theorem NamesM.grown {bm : Nat} {L : List (List UInt8)} {W W' : World} {row : Option Nat} (h : NamesM bm L W) (hb : W.grownBy W' row) (hne : some bm ≠ row) : NamesM bm L W' := h.keep (hb.block bm h.lt hne)
theorem NamesM.lookup {bm : Nat} {L : List (List UInt8)} {W : World} (h : NamesM bm L W) (x : ByteArray) (hx : x.size ≤ maxLen) :
    (Instr.lookup 136 (.map (some bm)) (.string x) false).run Tryz.prog W = .ok (.int .i64 (if amongB L x.data.toList then 1 else 0)) W := by
  obtain ⟨n, D, h0, h1, h2, h3⟩ := h
  obtain ⟨c, hrun, hat, hwc⟩ := h1.lookup_int names_keyed Tryz.underlying136 Tryz.underlying3 (names_zero W) (names_key x hx)
  rw [hrun]
  have := hat.symm.trans (h3 x.data.toList)
  simp only [DataW.lit.injEq, Lit.int.injEq, true_and] at this
  rw [this]
theorem NamesM.update {bm : Nat} {L : List (List UInt8)} {W : World} (h : NamesM bm L W) (x : ByteArray) (hx : x.size ≤ maxLen) (hL : L.length < 1000000) :
    ∃ W', (Instr.mapUpdate 136 (.map (some bm)) (.string x) (.int .i64 1)).run Tryz.prog W = .ok () W' ∧ NamesM bm (x.data.toList :: L) W' ∧ W.grownBy W' (some bm) := by
  obtain ⟨n, D, h0, h1, h2, h3⟩ := h
  obtain ⟨W', hrun, r1, r2⟩ := h1.update (kl := .string x.data.toList) (d := .lit (.int .i64 1)) (ps := []) names_keyed Tryz.underlying136 (by unfold maxLen; omega) (names_key x hx) (plainElem_int Tryz.underlying3 (by decide))
  refine ⟨W', hrun, ⟨n + 1, _, by simp; omega, r1, h2.put _ _, ?_⟩, r2⟩
  intro y
  by_cases hy : y = x.data.toList
  · subst hy
    rw [atKey_put_same h2 (by trivial)]
    have : amongB (x.data.toList :: L) x.data.toList = true := by unfold amongB; simp
    rw [this]; rfl
  · rw [atKey_put_other (fun e => hy (by injection e)), h3 y]
    have : amongB (x.data.toList :: L) y = amongB L y := by
      unfold amongB
      rw [List.any_cons]
      have : (x.data.toList == y) = false := beq_eq_false_iff_ne.2 fun e => hy e.symm
      rw [this, Bool.false_or]
    rw [this]
end Go.Proofs.YtgaknbnhmoddcaaGreatDoor
namespace Go.Proofs.YtgaknbnhmoddcaaGreatDoor
open Go.RowKit Go.Lib
/-- All older blocks but two stay. -/
def MK (p m : Nat) (W W' : World) : Prop := Below p W W' ∧ ∀ (k : Nat) (o : Obj), W.heap[k]? = some o → k ≠ p → k ≠ m → W'.heap[k]? = some o
theorem MK.of_rk {p m : Nat} {W W' : World} (h : RK p W W') : MK p m W W' := ⟨h.1, fun k o hk h1 _ => h.2 k o hk h1⟩
theorem MK.rk {p m : Nat} {W W' W'' : World} (h : MK p m W W') (h' : RK p W' W'') : MK p m W W'' := ⟨h.1.trans h'.1, fun k o hk h1 h2 => h'.2 k o (h.2 k o hk h1 h2) h1⟩
theorem MK.grown {p m : Nat} {W W' W'' : World} (h : MK p m W W') (hg : W'.grownBy W'' (some m)) (hp : p < m) (hlt : m < W'.heap.size) : MK p m W W'' :=
  ⟨h.1.grown hg (by omega) (fun k hk => by injection hk with hk; omega), fun k o hk h1 h2 => (hg.block k (heap_lt (h.2 k o hk h1 h2)) (fun e => h2 (by injection e))).trans (h.2 k o hk h1 h2)⟩
theorem NamesM.rk {bm p : Nat} {L : List (List UInt8)} {W W' : World} (h : NamesM bm L W) (hk : RK p W W') (hne : bm ≠ p) : NamesM bm L W' := by
  refine h.keep ?_
  have := Array.getElem?_eq_getElem h.lt
  rw [this]
  exact hk.2 bm _ this hne
theorem among_contains (L : List (List UInt8)) (n : List UInt8) : amongB L n = L.contains n := by
  unfold amongB
  induction L with
  | nil => rfl
  | cons a L ih =>
    rw [List.any_cons, List.contains_cons, ih]
    congr 1
    exact BEq.comm
/-- The reader's state, with names in a map. -/
structure IS (p bm : Nat) (w : World) (v0 v : Value) (out : List Cel) (l : List UInt8) (op : Int) (nm : List (List UInt8)) (W : World) : Prop where
  vp : VP p w v0 v out l op W
  nm : NamesM bm nm W
  lo : w.heap.size ≤ bm
  pl : p < w.heap.size
  ne : v.ownBlock ≠ some bm
section
variable {p bm : Nat} {w : World} {v0 v : Value} {out : List Cel} {l l' : List UInt8} {op op' : Int} {nm nm' : List (List UInt8)} {W W' : World}
theorem IS.rk (h : IS p bm w v0 v out l op nm W) (hs : PS p l' v op' W') (hk : RK p W W') : IS p bm w v0 v out l' op' nm W' :=
  ⟨h.vp.rk hs hk, h.nm.rk hk (by have := h.lo; have := h.pl; omega), h.lo, h.pl, h.ne⟩
theorem IS.below (h : IS p bm w v0 v out l op nm W) (hb : Below W.heap.size W W') : IS p bm w v0 v out l op nm W' := h.rk (h.vp.st.below hb) (RK.of_below hb h.vp.st.lt)
theorem OwnC.mk {B p m : Nat} {v : Value} {L : List Cel} {W W' : World} (h : OwnC B v L W) (hk : MK p m W W') (hp : p < B) (hne : v.ownBlock ≠ some m) : OwnC B v L W' := by
  obtain ⟨h1, h2⟩ := h
  refine ⟨h1, ?_⟩
  rcases h2 with h2 | ⟨g, cap, cur, hv, hB, hg, hrest⟩
  · exact Or.inl h2
  · refine Or.inr ⟨g, cap, cur, hv, hB, hk.2 g _ hg (by omega) (fun e => hne ?_), hrest⟩
    rw [hv, ← e]; rfl
theorem IS.mk_ (h : IS p bm w v0 v out l op nm W) (hs : PS p l' v op W') (hm : NamesM bm nm' W') (hk : MK p bm W W') : IS p bm w v0 v out l' op nm' W' :=
  ⟨⟨hs, h.vp.own.mk hk (Nat.lt_succ_self p) h.ne, ⟨h.vp.vk.1.trans hk.1, fun k o ho h1 h2 => hk.2 k o (h.vp.vk.2 k o ho h1 h2) h1 (by have := heap_lt ho; have := h.lo; omega)⟩, h.vp.ob⟩, hm, h.lo, h.pl, h.ne⟩
theorem VP.join {v2 : Value} {out2 : List Cel} (h : VP p w v0 v out l op W) (h' : VP p W v v2 out2 l' op' W') : VP p w v0 v2 out2 l' op' W' :=
  ⟨h'.st, h'.own, h.vk.trans h'.vk h.ob, fun k hk => by
    rcases h'.ob k hk with e | e
    · exact h.ob k e
    · have := h.size; exact Or.inr (by omega)⟩
theorem IS.val {v2 : Value} {out2 : List Cel} (h : IS p bm w v0 v out l op nm W) (h' : VP p W v v2 out2 l' op' W') : IS p bm w v0 v2 out2 l' op' nm W' := by
  have hlt := h.nm.lt
  refine ⟨h.vp.join h', h.nm.keep ?_, h.lo, h.pl, fun e => ?_⟩
  · have := Array.getElem?_eq_getElem hlt
    rw [this]
    exact h'.vk.2 bm _ this (by have := h.lo; have := h.pl; omega) h.ne
  · rcases h'.ob bm e with e | e
    · exact h.ne e
    · omega
end
end Go.Proofs.YtgaknbnhmoddcaaGreatDoor
namespace Go.Proofs.YtgaknbnhmoddcaaGreatDoor
open Go.RowKit Go.Lib
theorem LS.grown {p tb off cap : Nat} {T : List Tok} {fx : Bool} {k : Nat} {op : Int} {v : Value} {W W' : World} {bm : Nat} (h : LS p tb off cap T fx k op v W) (hg : W.grownBy W' (some bm)) (hp : p < bm) : LS p tb off cap T fx k op v W' := by
  have hb := h.2.2.1
  refine ⟨(hg.block p h.lt (fun e => by injection e; omega)).trans h.1, ?_, h.2.2⟩
  intro i hi
  obtain ⟨h1, h2, h3⟩ := h.2.1 i hi
  have e := hg.block tb (lt_of_cell h1) (fun e => by injection e; omega)
  refine ⟨?_, ?_, ?_⟩
  · rw [← h1]; unfold World.cell?; rw [e]
  · rw [← h2]; unfold World.cell?; rw [e]
  · rw [← h3]; unfold World.cell?; rw [e]
/-- What a name leaves: a map of names that holds it, too. -/
def NaP (p tb off cap : Nat) (T : List Tok) (fx : Bool) (op : Int) (v : Value) (k bm : Nat) (nm : List (List UInt8)) (w0 : World) (o : Except ErrP (List UInt8)) (x : Ending) (W : World) : Prop := match o with
  | .error e => x = .panicked (stopP e) ∧ Below p w0 W
  | .ok s => x = .returned (.string ⟨s.toArray⟩) ∧ LS p tb off cap T fx (k + 1) op v W ∧ NamesM bm (s :: nm) W ∧ MK p bm w0 W
def naV (k : Nat) (o : Except ErrP (List UInt8)) : Except ErrP (Value × Nat) := match o with
  | .error e => .error e
  | .ok s => .ok (.string ⟨s.toArray⟩, k + 1)
theorem lookP_small {T : List Tok} (h : ∀ t ∈ T, t.text.length ≤ 100000) (k : Nat) : (lookP T k).text.length ≤ 100000 := by
  by_cases hk : k < T.length
  · rw [lookP_in hk]; exact h _ (List.getElem_mem _)
  · rw [lookP_out hk]; exact Nat.zero_le _
theorem nil_lookup (s : ByteArray) (hs : s.size ≤ maxLen) (W : World) : (Instr.lookup 136 (.map none) (.string s) false).run Tryz.prog W = .ok (.int .i64 0) W := by
  rw [Maps.look_nil false names_keyed Tryz.underlying136 (names_zero W) (names_key s hs)]; rfl
theorem map_neq (m : Option Nat) (W : World) : (binOp .neq 136 (.map m) (.map none)).run Tryz.prog W = .ok (.bool (!m.isNone)) W := run_neq_map_nil W _ _ _ m Tryz.underlying136
set_option maxRecDepth 100000 in
theorem l_name0 {p tb off cap : Nat} {T : List Tok} {fx : Bool} {k : Nat} {op : Int} {v : Value} (w : World) (h : LS p tb off cap T fx k op v w) (hk : k ≤ 100000) :
    Calls Tryz.prog 86 #[.pointer (some ⟨p, 0, none⟩), .map none] w (PO p tb off cap T fx op v w (naV k (namP [] T k))) := by
  have HL := Lib.hid (l_look w h)
  have HN := Lib.hid (fun e (W : World) (h : LS p tb off cap T fx k op v W) => l_no e W h)
  have hp := h.lt
  have HS := Lib.hid h
  have hsm := lookP_small h.2.2.2.1.2 k
  have hw : IntKind.i64.wrap ((k : Int) + 1) = ((k + 1 : Nat) : Int) := by rw [IntWalk.i64_in ((k : Int) + 1) (by omega)]; omega
  clear h
  unfold namP
  unfold tokW at HL
  obtain ⟨t, ht⟩ : ∃ t : Tok, lookP T k = t := ⟨_, rfl⟩
  rw [ht] at HL hsm ⊢
  clear ht
  obtain ⟨kk, tx, ps⟩ := t
  obtain ⟨b, hb⟩ : ∃ b : ByteArray, (⟨tx.toArray⟩ : ByteArray) = b := ⟨_, rfl⟩
  have hbz : b.size ≤ maxLen := by rw [← bsz, ← hb]; unfold maxLen; simp at hsm ⊢; omega
  simp only [] at HL hsm ⊢
  rw [hb] at HL
  have hnl := fun W => nil_lookup b hbz W
  have hnq := fun W => map_neq none W
  simp only [Option.isNone_none, Bool.not_true] at hnq
  by_cases h1 : kk = 1
  · rw [h1] at HL ⊢
    rw [if_neg (by decide), if_neg (by simp)]
    simp only [naV]
    rw [hb]
    clear hb hbz hsm h1
    go_enter Tryz.func86, Tryz.ntmps86
    go_wp2_with fail
    refine HL.out.mono ?_; rintro x w1 ⟨rfl, hb⟩
    have HB := Lib.hid hb
    have HK1 := Lib.hid ((RK.of_below hb hp).trans (RK.of_below ((Below.refl w1.heap.size w1).alloc (Nat.le_refl _) (.cells #[.int .u8 1, .string b, .int .i64 ps] 72 (0, 0))) (Nat.lt_of_lt_of_le hp hb.size)))
    have HS1 := Lib.hid ((HS.out.below hb).below ((Below.refl w1.heap.size w1).alloc (Nat.le_refl _) (.cells #[.int .u8 1, .string b, .int .i64 ps] 72 (0, 0))))
    obtain ⟨c0, c1, _, _, _⟩ := HS1.out.cells
    have f1 := HS1.out.frozen 1
    have hcd : ((w1.alloc (.cells #[.int .u8 1, .string b, .int .i64 ps] 72 (0, 0))).setCell ⟨p, 1, none⟩ (.int .i64 ((k : Int) + 1))).cell? ⟨w1.heap.size, 1, none⟩ = some (.string b) := by
      have : p < w1.heap.size := Nat.lt_of_lt_of_le hp hb.size
      have hne : ¬ w1.heap.size = p := by omega
      simp [go_sem, hne]
    clear hb
    go_wp2_with fail
    go_returns
    exact ⟨rfl, HS1.out.go (k + 1) (by omega), HK1.out.trans (RK.set p 1 _ _)⟩
  · have h5 : ¬ (kk.toNat : Int) = 1 := fun h => h1 (UInt8.toNat_inj.1 (by simpa using (by omega : kk.toNat = 1)))
    rw [if_pos (by simpa using h1)]
    obtain ⟨kd, hkd⟩ : ∃ kd : Int, (kk.toNat : Int) = kd := ⟨_, rfl⟩
    rw [hkd] at HL h5
    clear hb hbz hsm hkd h1 hnl hnq
    go_enter Tryz.func86, Tryz.ntmps86
    go_wp2_with fail
    refine HL.out.mono ?_; rintro x w1 ⟨rfl, hb⟩
    have HB := Lib.hid hb
    have HS1 := Lib.hid ((HS.out.below hb).below ((Below.refl w1.heap.size w1).alloc (Nat.le_refl _) (.cells #[.int .u8 kd, .string b, .int .i64 ps] 72 (0, 0))))
    have hp1 : p ≤ (w1.alloc (.cells #[.int .u8 kd, .string b, .int .i64 ps] 72 (0, 0))).heap.size := Nat.le_of_lt HS1.out.lt
    have HB2 := Lib.hid ((hb.alloc hb.size (.cells #[.int .u8 kd, .string b, .int .i64 ps] 72 (0, 0))).mono (Nat.le_of_lt hp))
    clear hb
    go_wp2_with fail
    refine (HN.out 180 _ HS1.out).mono ?_; rintro x w2 ⟨rfl, hb⟩
    have HB3 := Lib.hid (HB2.out.trans (hb.mono hp1))
    clear hb
    go_wp2_with fail
    exact ⟨rfl, rfl, HB3.out⟩
set_option maxRecDepth 100000 in
theorem l_name {p tb off cap : Nat} {T : List Tok} {fx : Bool} {k : Nat} {op : Int} {v : Value} (bm : Nat) (nm : List (List UInt8)) (w : World) (h : LS p tb off cap T fx k op v w) (hk : k ≤ 100000) (hM : NamesM bm nm w) (hpb : p < bm) (hnm : nm.length < 1000000) :
    Calls Tryz.prog 86 #[.pointer (some ⟨p, 0, none⟩), .map (some bm)] w (NaP p tb off cap T fx op v k bm nm w (namP nm T k)) := by
  have HL := Lib.hid (l_look w h)
  have HN := Lib.hid (fun e (W : World) (h : LS p tb off cap T fx k op v W) => l_no e W h)
  have hp := h.lt
  have HS := Lib.hid h
  have HMM := Lib.hid hM
  have hsm := lookP_small h.2.2.2.1.2 k
  have hMlt := hM.lt
  have hw : IntKind.i64.wrap ((k : Int) + 1) = ((k + 1 : Nat) : Int) := by rw [IntWalk.i64_in ((k : Int) + 1) (by omega)]; omega
  clear h hM
  unfold namP
  unfold tokW at HL
  obtain ⟨t, ht⟩ : ∃ t : Tok, lookP T k = t := ⟨_, rfl⟩
  rw [ht] at HL hsm ⊢
  clear ht
  obtain ⟨kk, tx, ps⟩ := t
  obtain ⟨b, hb⟩ : ∃ b : ByteArray, (⟨tx.toArray⟩ : ByteArray) = b := ⟨_, rfl⟩
  have hbz : b.size ≤ maxLen := by rw [← bsz, ← hb]; unfold maxLen; simp at hsm ⊢; omega
  have hbd : b.data.toList = tx := by rw [← hb]
  simp only [] at HL hsm ⊢
  rw [hb] at HL
  have hnq := fun W => map_neq (some bm) W
  simp only [Option.isNone_some, Bool.not_false] at hnq
  by_cases h1 : kk = 1
  · rw [h1] at HL ⊢
    rw [if_neg (by decide)]
    have HLK : Hid (∀ W, NamesM bm nm W → (Instr.lookup 136 (.map (some bm)) (.string b) false).run Tryz.prog W = .ok (.int .i64 (if nm.contains tx then 1 else 0)) W) := Lib.hid fun W hW => by
      have := hW.lookup b hbz
      rw [hbd, among_contains] at this; exact this
    have HUP : Hid (∀ W, NamesM bm nm W → ∃ W', (Instr.mapUpdate 136 (.map (some bm)) (.string b) (.int .i64 1)).run Tryz.prog W = .ok () W' ∧ NamesM bm (tx :: nm) W' ∧ W.grownBy W' (some bm)) := Lib.hid fun W hW => by
      have := hW.update b hbz hnm
      rw [hbd] at this; exact this
    cases hc : nm.contains tx with
    | true =>
      rw [if_pos rfl]
      rw [hc] at HLK
      clear hb hbd hbz hsm h1 hc hnq
      go_enter Tryz.func86, Tryz.ntmps86
      go_wp2_with fail
      refine HL.out.mono ?_; rintro x w1 ⟨rfl, hb⟩
      have HS1 := Lib.hid ((HS.out.below hb).below ((Below.refl w1.heap.size w1).alloc (Nat.le_refl _) (.cells #[.int .u8 1, .string b, .int .i64 ps] 72 (0, 0))))
      have hp1 : p ≤ (w1.alloc (.cells #[.int .u8 1, .string b, .int .i64 ps] 72 (0, 0))).heap.size := Nat.le_of_lt HS1.out.lt
      have HB2 := Lib.hid ((hb.alloc hb.size (.cells #[.int .u8 1, .string b, .int .i64 ps] 72 (0, 0))).mono (Nat.le_of_lt hp))
      have hr := HLK.out _ ((HMM.out.below hb).below ((Below.refl w1.heap.size w1).alloc (Nat.le_refl _) (.cells #[.int .u8 1, .string b, .int .i64 ps] 72 (0, 0))))
      clear hb
      go_wp2_with fail
      refine (HN.out 42 _ HS1.out).mono ?_; rintro x w2 ⟨rfl, hb⟩
      have HB3 := Lib.hid (HB2.out.trans (hb.mono hp1))
      clear hb
      go_wp2_with fail
      exact ⟨rfl, rfl, HB3.out⟩
    | false =>
      rw [if_neg (by simp)]
      rw [hc] at HLK
      have HBE : Hid ((⟨tx.toArray⟩ : ByteArray) = b) := Lib.hid hb
      clear hb hbd hbz hsm h1 hc
      go_enter Tryz.func86, Tryz.ntmps86
      go_wp2_with fail
      refine HL.out.mono ?_; rintro x w1 ⟨rfl, hb⟩
      have HK1 := Lib.hid ((RK.of_below hb hp).trans (RK.of_below ((Below.refl w1.heap.size w1).alloc (Nat.le_refl _) (.cells #[.int .u8 1, .string b, .int .i64 ps] 72 (0, 0))) (Nat.lt_of_lt_of_le hp hb.size)))
      have HS1 := Lib.hid ((HS.out.below hb).below ((Below.refl w1.heap.size w1).alloc (Nat.le_refl _) (.cells #[.int .u8 1, .string b, .int .i64 ps] 72 (0, 0))))
      have HM1 := Lib.hid ((HMM.out.below hb).below ((Below.refl w1.heap.size w1).alloc (Nat.le_refl _) (.cells #[.int .u8 1, .string b, .int .i64 ps] 72 (0, 0))))
      have hr := HLK.out _ HM1.out
      obtain ⟨c0, c1, _, _, _⟩ := HS1.out.cells
      have f1 := HS1.out.frozen 1
      have HS2 := Lib.hid (HS1.out.go (k + 1) (by omega))
      have HM2 := Lib.hid (HM1.out.rk (RK.set p 1 _ (.int .i64 ((k : Int) + 1))) (by omega))
      have hcd : ((w1.alloc (.cells #[.int .u8 1, .string b, .int .i64 ps] 72 (0, 0))).setCell ⟨p, 1, none⟩ (.int .i64 ((k : Int) + 1))).cell? ⟨w1.heap.size, 1, none⟩ = some (.string b) := by
        have : p < w1.heap.size := Nat.lt_of_lt_of_le hp hb.size
        have hne : ¬ w1.heap.size = p := by omega
        simp [go_sem, hne]
      obtain ⟨W2, hu, hM3, hg⟩ := HUP.out _ HM2.out
      have hbl := hMlt
      have hsz1 := hb.size
      have hcd2 : W2.cell? ⟨w1.heap.size, 1, none⟩ = some (.string b) := by
        rw [← hcd]
        unfold World.cell?
        rw [hg.block w1.heap.size (lt_of_cell hcd) (fun e => by injection e; omega)]
      have HM3 := Lib.hid hM3
      have HG := Lib.hid hg
      clear hb hM3 hg
      go_wp2_with fail
      go_returns
      refine ⟨by rw [HBE.out]; rfl, HS2.out.grown HG.out hpb, HM3.out, ?_⟩
      exact ((MK.of_rk HK1.out).rk (RK.set p 1 _ _)).grown HG.out hpb HM2.out.lt
  · have h5 : ¬ (kk.toNat : Int) = 1 := fun h => h1 (UInt8.toNat_inj.1 (by simpa using (by omega : kk.toNat = 1)))
    rw [if_pos (by simpa using h1)]
    obtain ⟨kd, hkd⟩ : ∃ kd : Int, (kk.toNat : Int) = kd := ⟨_, rfl⟩
    rw [hkd] at HL h5
    clear hb hbz hbd hsm hkd h1 hnq
    go_enter Tryz.func86, Tryz.ntmps86
    go_wp2_with fail
    refine HL.out.mono ?_; rintro x w1 ⟨rfl, hb⟩
    have HB := Lib.hid hb
    have HS1 := Lib.hid ((HS.out.below hb).below ((Below.refl w1.heap.size w1).alloc (Nat.le_refl _) (.cells #[.int .u8 kd, .string b, .int .i64 ps] 72 (0, 0))))
    have hp1 : p ≤ (w1.alloc (.cells #[.int .u8 kd, .string b, .int .i64 ps] 72 (0, 0))).heap.size := Nat.le_of_lt HS1.out.lt
    have HB2 := Lib.hid ((hb.alloc hb.size (.cells #[.int .u8 kd, .string b, .int .i64 ps] 72 (0, 0))).mono (Nat.le_of_lt hp))
    clear hb
    go_wp2_with fail
    refine (HN.out 180 _ HS1.out).mono ?_; rintro x w2 ⟨rfl, hb⟩
    have HB3 := Lib.hid (HB2.out.trans (hb.mono hp1))
    clear hb
    go_wp2_with fail
    exact ⟨rfl, rfl, HB3.out⟩
end Go.Proofs.YtgaknbnhmoddcaaGreatDoor
namespace Go.Proofs.YtgaknbnhmoddcaaGreatDoor
open Go.RowKit Go.Lib
/-- The reader's state, behind a world that it began in. -/
structure LV (p tb off cap : Nat) (T : List Tok) (fx : Bool) (w : World) (v0 v : Value) (out : List Cel) (k : Nat) (op : Int) (W : World) : Prop where
  st : LS p tb off cap T fx k op v W
  own : OwnC (p + 1) v out W
  vk : VK p v0 w W
  ob : ∀ k, v.ownBlock = some k → v0.ownBlock = some k ∨ w.heap.size ≤ k
section
variable {p tb off cap : Nat} {T : List Tok} {fx : Bool} {w : World} {v0 v : Value} {out : List Cel} {k k' : Nat} {op op' : Int} {W W' : World}
theorem LV.size (h : LV p tb off cap T fx w v0 v out k op W) : w.heap.size ≤ W.heap.size := h.vk.1.size
theorem LV.rk (h : LV p tb off cap T fx w v0 v out k op W) (hs : LS p tb off cap T fx k' op' v W') (hk : RK p W W') : LV p tb off cap T fx w v0 v out k' op' W' := ⟨hs, h.own.rk hk (Nat.lt_succ_self p), h.vk.rk hk, h.ob⟩
theorem LV.below (h : LV p tb off cap T fx w v0 v out k op W) (hb : Below W.heap.size W W') : LV p tb off cap T fx w v0 v out k op W' := h.rk (h.st.below hb) (RK.of_below hb h.st.lt)
theorem LV.alloc (h : LV p tb off cap T fx w v0 v out k op W) (o : Obj) : LV p tb off cap T fx w v0 v out k op (W.alloc o) := h.below ((Below.refl W.heap.size W).alloc (Nat.le_refl _) _)
theorem LV.drewN (h : LV p tb off cap T fx w v0 v out k op W) (n : Nat) : LV p tb off cap T fx w v0 v out k op (W.drewN n) := h.below (below_dN n (Below.refl _ _))
theorem LV.go (h : LV p tb off cap T fx w v0 v out k op W) (k' : Nat) (hk : k' ≤ 200000) : LV p tb off cap T fx w v0 v out k' op (W.setCell ⟨p, 1, none⟩ (.int .i64 k')) := h.rk (h.st.go k' hk) (RK.set p 1 W _)
theorem LV.op_ (h : LV p tb off cap T fx w v0 v out k op W) (a : Int) : LV p tb off cap T fx w v0 v out k a (W.setCell ⟨p, 3, none⟩ (.int .i64 a)) := h.rk (h.st.op_ a) (RK.set p 3 W _)
/-- A block is not the row of cells, nor the reader, nor the row of tokens: it may be written. -/
theorem LS.same (h : LS p tb off cap T fx k op v W) (hp : W'.heap[p]? = W.heap[p]?) (ht : W'.heap[tb]? = W.heap[tb]?) : LS p tb off cap T fx k op v W' := by
  refine ⟨hp.trans h.1, ?_, h.2.2⟩
  intro i hi
  obtain ⟨h1, h2, h3⟩ := h.2.1 i hi
  refine ⟨?_, ?_, ?_⟩
  · rw [← h1]; unfold World.cell?; rw [ht]
  · rw [← h2]; unfold World.cell?; rw [ht]
  · rw [← h3]; unfold World.cell?; rw [ht]
theorem LV.grown {v' : Value} {out' : List Cel} {H : Nat} (h : LV p tb off cap T fx w v0 v out k op W) (ho : OwnC (p + 1) v' out' W') (hg : W.grownBy W' v.ownBlock) (hat : v'.ownBlock = v.ownBlock ∨ v'.ownBlock = some H) (hH : W.heap.size = H) : LS p tb off cap T fx k op v W' ∧ LV p tb off cap T fx w v0 v' out' k op (W'.setCell ⟨p, 4, none⟩ v') := by
  have hlt := h.st.lt
  have htb := h.st.2.2.1
  have hne : ∀ q, q ≤ p → some q ≠ v.ownBlock := fun q hq e => by
    rcases own_some h.own with h0 | ⟨g, _, _, _, h0, h1, _⟩
    · rw [h0] at e; cases e
    · rw [h0] at e; injection e with e; omega
  have hst : LS p tb off cap T fx k op v W' := h.st.same (hg.block p hlt (hne p (Nat.le_refl _))) (hg.block tb (by omega) (hne tb (by omega)))
  have hvk : VK p v W W' := by
    refine ⟨(Below.refl p W).grown hg (Nat.le_of_lt hlt) (fun k hk => ?_), fun k o hk hne2 hv => ?_⟩
    · rcases own_some h.own with h0 | ⟨g, _, _, _, h0, h1, _⟩
      · rw [h0] at hk; cases hk
      · rw [h0] at hk; injection hk with hk; omega
    · rw [hg.block k (heap_lt hk) (fun e => hv e.symm)]; exact hk
  refine ⟨hst, hst.out v', ho.rk (RK.set p 4 _ _) (Nat.lt_succ_self p), (h.vk.trans hvk h.ob).rk (RK.set p 4 _ _), fun k hk => ?_⟩
  rcases hat with e | e
  · exact h.ob k (e ▸ hk)
  · rw [e] at hk; injection hk with hk
    have := h.size
    rw [hH] at this
    exact Or.inr (by omega)
theorem LV.set {g i m c : Nat} {u : Value} {out' : List Cel} (h : LV p tb off cap T fx w v0 v out k op W) (hv : v = .slice (some ⟨g, 0, none⟩) m c) (hr : p < g) (hl : out'.length = out.length) (hf : celFlat out' = (celFlat out).set i u) : LV p tb off cap T fx w v0 v out' k op (W.setCell ⟨g, i, none⟩ u) := by
  have htb := h.st.2.2.1
  refine ⟨h.st.same ?_ ?_, h.own.set hv hl hf, h.vk.trans (VK.set hv hr) h.ob, h.ob⟩
  · exact Below.heap_setCell _ _ _ _ (by show p ≠ g; omega)
  · exact Below.heap_setCell _ _ _ _ (by show tb ≠ g; omega)
end
/-- Where a value ends. -/
def LVE (p tb off cap : Nat) (T : List Tok) (fx : Bool) (w : World) (v0 : Value) (op : Int) (o : Except ErrP (Nat × List Cel)) (x : Ending) (W : World) : Prop := match o with
  | .error e => x = .panicked (stopP e) ∧ Below p w W
  | .ok (k, out') => x = .returned (.tuple #[]) ∧ out'.length ≤ 2048 ∧ ∃ v', LV p tb off cap T fx w v0 v' out' k op W
/-- 'append(v, c)' of a whole cell. -/
theorem wp_pushL {o : Oper} {a : Act} {K : Act → World → Prop} {Q : Exit → Act → World → Prop} {w : World} (s x : Operand)
    (ho : o.op = .call { callee := .builtin .append, args := #[s, x], argTypes := #[22, 22] }) (B : Nat) (v : Value) (L : List Cel) (hs : a.eval s = v) (hown : OwnC B v L w)
    (g cc : Nat) (c : Cel) (hx : a.eval x = .slice (some ⟨g, 0, none⟩) 1 cc) (hnew : w.heap[g]? = some (.cells (celCells c) 63 (0, 0))) (hlen : L.length + 1 ≤ 1000000) (hB : B ≤ w.heap.size)
    (h : ∀ v' w', OwnC B v' (L ++ [c]) w' → w.grownBy w' v.ownBlock → (v'.ownBlock = v.ownBlock ∨ v'.ownBlock = some w.heap.size) → K (a.put o.dst v') w') : o.wp Tryz.prog a w K Q := by
  obtain ⟨i0, hi, hz0, hz1, hz2⟩ := info_parts cel_info
  obtain ⟨v', w', hr, h2, h3, h4, h5⟩ := run_append_own_at (P := Tryz.prog) w B 22 o.type 63 i0 (.agg #[.int .u8 0, .string ⟨#[]⟩, .string ⟨#[]⟩, .int .i64 0, .int .i64 0]) 5 56 Tryz.underlying22 hi hz0 hz1 hz2 rfl (by decide) v L.length (celFlat L) hown ⟨g, 0, none⟩ 1 cc (celFlat [c]) rfl (fun j u hj => by
    rw [addr_add, Nat.zero_add, Lib.cell_of_heap hnew]
    match j, hj with
    | 0, hj => simpa [celFlat, celCells] using hj
    | 1, hj => simpa [celFlat, celCells] using hj
    | 2, hj => simpa [celFlat, celCells] using hj
    | 3, hj => simpa [celFlat, celCells] using hj
    | 4, hj => simpa [celFlat, celCells] using hj
    | j + 5, hj => simp [celFlat] at hj) (celFlat_one _) (by unfold maxLen; omega) (by omega) hB
  unfold Oper.wp execOp
  simp only [ho, resolve, invoke, builtin, Sem.run_bind, Sem.run_pure, Result.andThen_ok, List.map_toArray, List.map_cons, List.map_nil, hs, hx, hr]
  refine h v' w' ?_ h3 h5
  unfold OwnC
  rw [List.length_append, celFlat_app]
  exact h2
end Go.Proofs.YtgaknbnhmoddcaaGreatDoor
namespace Go.Proofs.YtgaknbnhmoddcaaGreatDoor
open Go.RowKit Go.Lib
theorem mrk_no {T : List Tok} {k : Nat} (h : (lookP T k).kind ≠ 4) (s : List UInt8) : mrkP T k s = false := by
  unfold mrkP
  rw [beq_eq_false_iff_ne.2 h, Bool.false_and]
theorem tcells {A : Nat} {W : World} {x y z : Value} {T : TypeId} (h : W.heap[A]? = some (.cells #[x, y, z] T (0, 0))) : W.cell? ⟨A, 0, none⟩ = some x ∧ W.cell? ⟨A, 1, none⟩ = some y ∧ W.cell? ⟨A, 2, none⟩ = some z := by
  refine ⟨?_, ?_, ?_⟩
  all_goals (rw [Lib.cell_of_heap h]; rfl)
theorem ccells {A : Nat} {W : World} {x y z u v : Value} {T : TypeId} (h : W.heap[A]? = some (.cells #[x, y, z, u, v] T (0, 0))) : W.cell? ⟨A, 0, none⟩ = some x ∧ W.cell? ⟨A, 1, none⟩ = some y ∧ W.cell? ⟨A, 2, none⟩ = some z ∧ W.cell? ⟨A, 3, none⟩ = some u ∧ W.cell? ⟨A, 4, none⟩ = some v := by
  refine ⟨?_, ?_, ?_, ?_, ?_⟩
  all_goals (rw [Lib.cell_of_heap h]; rfl)
set_option maxRecDepth 100000 in
set_option maxHeartbeats 4000000 in
theorem l_value_text {p tb off cap : Nat} {T : List Tok} {fx : Bool} {k : Nat} {op : Int} (v : Value) (L : List Cel) (name : ByteArray) (W : World) (h : LS p tb off cap T fx k op v W) (hown : OwnC (p + 1) v L W) (hL : L.length ≤ 2048) (hk : k ≤ 100000) (hf : L.length ≠ 2048) (hkk : (lookP T k).kind = 3) :
    Calls Tryz.prog 91 #[.pointer (some ⟨p, 0, none⟩), .string name] W (LVE p tb off cap T fx W v op (.ok (k + 1, L ++ [⟨3, name.data.toList, (lookP T k).text, 0, 0⟩]))) := by
  have HV0 : Hid (LV p tb off cap T fx W v v L k op W) := Lib.hid ⟨h, hown, VK.refl _ _ _, fun k hk => Or.inl hk⟩
  have HLK := Lib.hid (fun (W : World) (hW : LS p tb off cap T fx k op v W) => l_look W hW)
  have HIS := Lib.hid (fun (s : ByteArray) (W : World) (hW : LS p tb off cap T fx k op v W) => l_is s W hW)
  have HNO := Lib.hid (fun (e : Int) (W : World) (hW : LS p tb off cap T fx k op v W) => l_no e W hW)
  have hw1 : IntKind.i64.wrap ((k : Int) + 1) = (k : Int) + 1 := IntWalk.i64_in _ (by omega)
  have hvl : ∃ a n c, v = .slice a n c ∧ n = L.length := by
    rcases HV0.out.own.2 with ⟨h1, h2⟩ | ⟨g, cap, cur, h1, _⟩
    · exact ⟨none, 0, 0, h1, h2.symm⟩
    · exact ⟨_, _, _, h1, rfl⟩
  obtain ⟨av, nv, cv, rfl, hnv⟩ := hvl
  have HNV := Lib.hid hnv
  have hnv8 : nv ≤ 2048 := by omega
  clear h hown
  have hL2 : nv ≤ 2047 := by omega
  have tf : ((nv : Int) == 2048) = false := by rw [beq_eq_false_iff_ne]; omega
  have hno := mrk_no (T := T) (k := k) (by rw [hkk]; decide)
  simp only [hno] at HIS
  obtain ⟨kd, hkd⟩ : ∃ kd : Int, ((lookP T k).kind.toNat : Int) = kd := ⟨_, rfl⟩
  obtain ⟨tb0, htb0⟩ : ∃ b : ByteArray, (⟨(lookP T k).text.toArray⟩ : ByteArray) = b := ⟨_, rfl⟩
  obtain ⟨ps, hps⟩ : ∃ ps : Int, (lookP T k).pos = ps := ⟨_, rfl⟩
  have HTX : Hid (tb0.data.toList = (lookP T k).text) := Lib.hid (by rw [← htb0])
  have HTB := Lib.hid htb0
  unfold tokW at HLK
  rw [hkd, htb0, hps] at HLK
  have hkd2 : kd = 3 := by rw [← hkd, hkk]; rfl
  subst hkd2
  clear hkd htb0 hps hkk hno hnv
  cases fx
  case' true =>
    go_enter Tryz.func91, Tryz.ntmps91
    go_wp2_with fail
    refine (HLK.out _ HV0.out.st).mono ?_; rintro x w1 ⟨rfl, hb⟩
    have HV1 := Lib.hid ((HV0.out.below hb).alloc (.cells #[.int .u8 3, .string tb0, .int .i64 ps] 72 (0, 0)))
    have HA1 : Hid ((w1.alloc (.cells #[.int .u8 3, .string tb0, .int .i64 ps] 72 (0, 0))).heap[w1.heap.size]? = some (.cells #[.int .u8 3, .string tb0, .int .i64 ps] 72 (0, 0))) := Lib.hid (heap_alloc_last _ _)
    obtain ⟨A, hA⟩ : ∃ A, w1.heap.size = A := ⟨_, rfl⟩
    rw [hA] at HA1
    have HAZ := Lib.hid hA
    clear hb
    go_wp2_with fail
    refine (HIS.out _ _ HV1.out.st).mono ?_; rintro x w2 ⟨rfl, hb⟩
    have HV2 := Lib.hid (HV1.out.below hb)
    have HA2 := Lib.hid ((hb.block A (heap_lt HA1.out)).trans HA1.out)
    clear hb
    go_wp2_with fail
    refine (HIS.out _ _ HV2.out.st).mono ?_; rintro x w4 ⟨rfl, hb⟩
    have HV4 := Lib.hid (HV2.out.below hb)
    have HA4 := Lib.hid ((hb.block A (heap_lt HA2.out)).trans HA2.out)
    clear hb
  case' false =>
    go_enter Tryz.func91, Tryz.ntmps91
    go_wp2_with fail
    refine (HLK.out _ HV0.out.st).mono ?_; rintro x w1 ⟨rfl, hb⟩
    have HV1 := Lib.hid ((HV0.out.below hb).alloc (.cells #[.int .u8 3, .string tb0, .int .i64 ps] 72 (0, 0)))
    have HA1 : Hid ((w1.alloc (.cells #[.int .u8 3, .string tb0, .int .i64 ps] 72 (0, 0))).heap[w1.heap.size]? = some (.cells #[.int .u8 3, .string tb0, .int .i64 ps] 72 (0, 0))) := Lib.hid (heap_alloc_last _ _)
    obtain ⟨A, hA⟩ : ∃ A, w1.heap.size = A := ⟨_, rfl⟩
    rw [hA] at HA1
    have HAZ := Lib.hid hA
    clear hb
    go_wp2_with fail
    refine (HIS.out _ _ HV1.out.st).mono ?_; rintro x w2 ⟨rfl, hb⟩
    have HV2 := Lib.hid (HV1.out.below hb)
    have HA2 := Lib.hid ((hb.block A (heap_lt HA1.out)).trans HA1.out)
    clear hb
    go_wp2_with fail
    refine (HIS.out _ _ HV2.out.st).mono ?_; rintro x w3 ⟨rfl, hb⟩
    have HV3 := Lib.hid (HV2.out.below hb)
    have HA3 := Lib.hid ((hb.block A (heap_lt HA2.out)).trans HA2.out)
    clear hb
    obtain ⟨c0, c1, c2, c3, c4⟩ := HV3.out.st.cells
    go_wp2_with fail
    refine (HIS.out _ _ HV3.out.st).mono ?_; rintro x w4 ⟨rfl, hb⟩
    have HV4 := Lib.hid (HV3.out.below hb)
    have HA4 := Lib.hid ((hb.block A (heap_lt HA3.out)).trans HA3.out)
    clear hb
    clear c0 c1 c2 c3 c4
  all_goals
    obtain ⟨c0, c1, c2, c3, c4⟩ := HV4.out.st.cells
    obtain ⟨a0, a1, a2⟩ := tcells HA4.out
    have hA4 : A < w4.heap.size := heap_lt HA4.out
    have hp4 : p < w4.heap.size := HV4.out.st.lt
    go_wp2_with fail
    clear c3 c4
    go_region
    obtain ⟨C, hC⟩ : ∃ C, w4.heap.size = C := ⟨_, rfl⟩
    have HV4a := Lib.hid ((HV4.out.alloc (.cells #[.int .u8 3, .string name, .string tb0, .int .i64 0, .int .i64 0] 63 (0, 0))).drewN 1)
    have HC4 : Hid ((w4.alloc (.cells #[.int .u8 3, .string name, .string tb0, .int .i64 0, .int .i64 0] 63 (0, 0))).drew.heap[C]? = some (.cells #[.int .u8 3, .string name, .string tb0, .int .i64 0, .int .i64 0] 63 (0, 0))) := Lib.hid (by rw [← hC]; exact heap_alloc_last _ _)
    rw [hC]
    obtain ⟨y4, hy4⟩ : ∃ y4, (w4.alloc (.cells #[.int .u8 3, .string name, .string tb0, .int .i64 0, .int .i64 0] 63 (0, 0))).drew = y4 := ⟨_, rfl⟩
    have hpC : p < C := by rw [← hC]; exact hp4
    rw [show (w4.alloc (.cells #[.int .u8 3, .string name, .string tb0, .int .i64 0, .int .i64 0] 63 (0, 0))).drewN 1 = y4 from hy4] at HV4a
    rw [hy4] at HC4 ⊢
    clear hy4 c0 c1 c2 a0 a1 a2 hA4 hp4 hC
    obtain ⟨c0, c1, c2, c3, c4⟩ := HV4a.out.st.cells
    have f1 := HV4a.out.st.frozen 1
    obtain ⟨y5, hy5⟩ : ∃ y5, y4.setCell ⟨p, 1, none⟩ (.int .i64 ((k : Int) + 1)) = y5 := ⟨_, rfl⟩
    have HY5 := Lib.hid (HV4a.out.go (k + 1) (by omega))
    have HC5 : Hid (y5.heap[C]? = some (.cells #[.int .u8 3, .string name, .string tb0, .int .i64 0, .int .i64 0] 63 (0, 0))) := Lib.hid (by rw [← hy5, Below.heap_setCell _ _ _ _ (by show C ≠ p; omega)]; exact HC4.out)
    rw [show y4.setCell ⟨p, 1, none⟩ (.int .i64 ((k + 1 : Nat) : Int)) = y5 from hy5] at HY5
    have HW5 := Lib.hid hy5
    clear hy5
    go_wp2_with fail
    try rw [HW5.out]
    clear c0 c1 c2 c3 c4 f1
    have hlt5 := HY5.out.st.lt
    have hC5 := heap_lt HC5.out
    obtain ⟨_, _, _, _, c4⟩ := HY5.out.st.cells
    have e4 : y5.drew.cell? ⟨p, 4, none⟩ = some (.slice av nv cv) := c4
    have e4' : ∀ o, (y5.drew.alloc o).cell? ⟨p, 4, none⟩ = some (.slice av nv cv) := fun o => by
      rw [World.cell?_alloc_lt _ _ _ (by exact hlt5)]; exact c4
    obtain ⟨q0, q1, q2, q3, q4⟩ := ccells (W := y5.drew) HC5.out
    have HCEL : Hid (celCells ⟨3, name.data.toList, (lookP T k).text, 0, 0⟩ = #[.int .u8 3, .string name, .string tb0, .int .i64 0, .int .i64 0]) := Lib.hid (by rw [← HTB.out]; rfl)
    refine wp_region_held_drew (S := fun _ => True) (by kernel_rfl) trivial (fun hHeld => ?_)
    refine tky 0 (some 160) (v := ?_) rfl (by kernel_rfl) (by kernel_rfl) (by kernel_rfl) (fun _ _ _ h => h) ?_ hHeld ?_
    rotate_left
    focus (intro w hSw; go_simp; (try with_reducible rfl); done)
    go_frame
    refine tky 1 (some 161) (v := ?_) rfl (by kernel_rfl) (by kernel_rfl) (by kernel_rfl) (fun _ _ _ h => h) ?_ hHeld ?_
    rotate_left
    focus (intro w hSw; go_simp; (try with_reducible rfl); done)
    go_frame
    refine tky 2 (some 162) (v := ?_) rfl (by kernel_rfl) (by kernel_rfl) (by kernel_rfl) (fun _ _ _ h => h) ?_ hHeld ?_
    rotate_left
    focus (intro w hSw; go_simp; (try with_reducible rfl); done)
    go_frame
    refine tky 3 (some 163) (v := ?_) rfl (by kernel_rfl) (by kernel_rfl) (by kernel_rfl) (fun _ _ _ h => h) ?_ hHeld ?_
    rotate_left
    focus (intro w hSw; go_simp; (try with_reducible rfl); done)
    go_frame
    refine wpAnyH_ready (rs := [4, 5]) (by kernel_rfl) (by simp) ?_
    refine acons 4 rfl (fun K hK => ?_) ?_
    go_simp
    refine hK.out _ _ trivial (fun _ => ?_)
    clear hK K
    (try go_frame)
    refine rcons 5 rfl (by kernel_rfl) (fun K hK => ?_)
    go_simp
    refine hK.out _ _ trivial (fun _ => ?_)
    clear hK K
    (try go_frame)
    refine rcons 6 rfl (by kernel_rfl) (fun K hK => ?_)
    go_simp
    refine hK.out _ _ trivial (fun _ => ?_)
    clear hK K
    (try go_frame)
    rotate_left
    refine acons 5 rfl (fun K hK => ?_) ?_
    go_simp
    refine hK.out _ _ trivial (fun _ => ?_)
    clear hK K
    (try go_frame)
    refine wpAnyH_ready (rs := [4, 6]) (by kernel_rfl) (by simp) ?_
    refine acons 4 rfl (fun K hK => ?_) ?_
    go_simp
    refine hK.out _ _ trivial (fun _ => ?_)
    clear hK K
    (try go_frame)
    refine rcons 6 rfl (by kernel_rfl) (fun K hK => ?_)
    go_simp
    refine hK.out _ _ trivial (fun _ => ?_)
    clear hK K
    (try go_frame)
    rotate_left
    refine acons 6 rfl (fun K hK => ?_) ?_
    go_simp
    refine hK.out _ _ trivial (fun _ => ?_)
    clear hK K
    (try go_frame)
    refine rcons 4 rfl (by kernel_rfl) (fun K hK => ?_)
    go_simp
    refine hK.out _ _ trivial (fun _ => ?_)
    clear hK K
    (try go_frame)
    rotate_left
    exact AllReadyH.nil
    exact AllReadyH.nil
    all_goals
      refine rcons 7 rfl (by kernel_rfl) (fun K hK => ?_)
      rw [if_pos]
      rotate_left
      focus kernel_rfl
      refine wp_pushL _ _ rfl (p + 1) (.slice av nv cv) L rfl (by exact ((HY5.out.drewN 1).alloc _).own) y5.heap.size 1 ⟨3, name.data.toList, (lookP T k).text, 0, 0⟩ rfl (by rw [HCEL.out]; exact heap_alloc_last y5.drew _) (by omega) (by show _ ≤ Array.size _; simp; omega) ?_
      intro v' y6 hown' hgrow hat
      obtain ⟨g6, cap6, hvg, -⟩ := hown'.form L.length (by simp)
      generalize (L ++ [(⟨3, name.data.toList, (lookP T k).text, 0, 0⟩ : Cel)]).length = n6 at hvg
      subst hvg
      obtain ⟨hst6, hy6⟩ := LV.grown ((HY5.out.drewN 1).alloc _) hown' hgrow hat rfl
      have HY6 := Lib.hid hy6
      obtain ⟨_, _, _, _, g4⟩ := hst6.cells
      have f6 := hst6.frozen 4
      clear hown' hgrow hat hst6 hy6
      (try dsimp only)
      refine hK.out _ _ trivial (fun _ => ?_)
      clear hK K
      (try go_frame)
      refine tky 8 (some 168) (v := ?_) rfl (by kernel_rfl) (by kernel_rfl) (by kernel_rfl) (fun _ _ _ h => h) ?_ hHeld ?_
      rotate_left
      focus (intro w hSw; go_simp; (try with_reducible rfl); done)
      go_frame
      refine tky 9 (some 169) (v := ?_) rfl (by kernel_rfl) (by kernel_rfl) (by kernel_rfl) (fun _ _ _ h => h) ?_ hHeld ?_
      rotate_left
      focus (intro w hSw; go_simp; (try with_reducible rfl); done)
      go_frame
      refine rcons 10 rfl (by kernel_rfl) (fun K hK => ?_)
      go_simp
      refine hK.out _ _ trivial (fun _ => ?_)
      clear hK K
      (try go_frame)
      refine wpAnyH_done (by kernel_rfl) ?_ _
      go_wp2_with fail
      go_end0
      exact ⟨rfl, by simp; omega, _, HY6.out⟩
end Go.Proofs.YtgaknbnhmoddcaaGreatDoor
namespace Go.Proofs.YtgaknbnhmoddcaaGreatDoor
open Go.RowKit Go.Lib
set_option maxRecDepth 100000 in
set_option maxHeartbeats 4000000 in
theorem l_value_bad {p tb off cap : Nat} {T : List Tok} {fx : Bool} {k : Nat} {op : Int} (v : Value) (L : List Cel) (name : ByteArray) (W : World) (h : LS p tb off cap T fx k op v W) (hown : OwnC (p + 1) v L W) (hL : L.length ≤ 2048) (hk : k ≤ 100000) (hb : begP fx T k = false) :
    Calls Tryz.prog 91 #[.pointer (some ⟨p, 0, none⟩), .string name] W (LVE p tb off cap T fx W v op (.error (180, k))) := by
  have HV0 : Hid (LV p tb off cap T fx W v v L k op W) := Lib.hid ⟨h, hown, VK.refl _ _ _, fun k hk => Or.inl hk⟩
  have HLK := Lib.hid (fun (W : World) (hW : LS p tb off cap T fx k op v W) => l_look W hW)
  have HIS := Lib.hid (fun (s : ByteArray) (W : World) (hW : LS p tb off cap T fx k op v W) => l_is s W hW)
  have HNO := Lib.hid (fun (e : Int) (W : World) (hW : LS p tb off cap T fx k op v W) => l_no e W hW)
  have hw1 : IntKind.i64.wrap ((k : Int) + 1) = (k : Int) + 1 := IntWalk.i64_in _ (by omega)
  have hvl : ∃ a n c, v = .slice a n c ∧ n = L.length := by
    rcases HV0.out.own.2 with ⟨h1, h2⟩ | ⟨g, cap, cur, h1, _⟩
    · exact ⟨none, 0, 0, h1, h2.symm⟩
    · exact ⟨_, _, _, h1, rfl⟩
  obtain ⟨av, nv, cv, rfl, hnv⟩ := hvl
  have HNV := Lib.hid hnv
  have hnv8 : nv ≤ 2048 := by omega
  clear h hown
  unfold begP opnP varP at hb
  simp only [Bool.or_eq_false_iff] at hb
  obtain ⟨⟨⟨⟨b1, b2⟩, b3⟩, ⟨m91, m123⟩⟩, m36⟩ := hb
  have nk : ∀ j : UInt8, ((lookP T k).kind == j) = false → ¬ ((lookP T k).kind.toNat : Int) = (j.toNat : Int) := fun j h e => by
    have : (lookP T k).kind = j := UInt8.toNat_inj.1 (by omega)
    rw [this] at h; simp at h
  have n1 : ¬ ((lookP T k).kind.toNat : Int) = 1 := nk 1 b1
  have n2 : ¬ ((lookP T k).kind.toNat : Int) = 2 := nk 2 b2
  have n3 : ¬ ((lookP T k).kind.toNat : Int) = 3 := nk 3 b3
  clear nk b1 b2 b3
  have H91 : Hid (∀ W', LS p tb off cap T fx k op (.slice av nv cv) W' → Calls Tryz.prog 82 #[.pointer (some ⟨p, 0, none⟩), .int .u8 4, .string ⟨#[91]⟩] W' fun x w' => x = .returned (.bool false) ∧ Below W'.heap.size W' w') := Lib.hid fun W' hW => by
    have := HIS.out ⟨#[91]⟩ W' hW
    rw [show (⟨#[91]⟩ : ByteArray).data.toList = [91] from rfl, m91] at this; exact this
  have H123 : Hid (∀ W', LS p tb off cap T fx k op (.slice av nv cv) W' → Calls Tryz.prog 82 #[.pointer (some ⟨p, 0, none⟩), .int .u8 4, .string ⟨#[123]⟩] W' fun x w' => x = .returned (.bool false) ∧ Below W'.heap.size W' w') := Lib.hid fun W' hW => by
    have := HIS.out ⟨#[123]⟩ W' hW
    rw [show (⟨#[123]⟩ : ByteArray).data.toList = [123] from rfl, m123] at this; exact this
  obtain ⟨kd, hkd⟩ : ∃ kd : Int, ((lookP T k).kind.toNat : Int) = kd := ⟨_, rfl⟩
  obtain ⟨tb0, htb0⟩ : ∃ b : ByteArray, (⟨(lookP T k).text.toArray⟩ : ByteArray) = b := ⟨_, rfl⟩
  obtain ⟨ps, hps⟩ : ∃ ps : Int, (lookP T k).pos = ps := ⟨_, rfl⟩
  have HTX : Hid (tb0.data.toList = (lookP T k).text) := Lib.hid (by rw [← htb0])
  have HTB := Lib.hid htb0
  unfold tokW at HLK
  rw [hkd, htb0, hps] at HLK
  rw [hkd] at n1 n2 n3
  have u1 : (kd != 1) = true := by rw [bne_iff_ne]; exact n1
  have u2 : (kd != 2) = true := by rw [bne_iff_ne]; exact n2
  have u3 : (kd != 3) = true := by rw [bne_iff_ne]; exact n3
  clear hkd htb0 hps hnv m91 m123
  cases fx
  case' true =>
    go_enter Tryz.func91, Tryz.ntmps91
    go_wp2_with fail
    refine (HLK.out _ HV0.out.st).mono ?_; rintro x w1 ⟨rfl, hb⟩
    have HV1 := Lib.hid ((HV0.out.below hb).alloc (.cells #[.int .u8 kd, .string tb0, .int .i64 ps] 72 (0, 0)))
    have HA1 : Hid ((w1.alloc (.cells #[.int .u8 kd, .string tb0, .int .i64 ps] 72 (0, 0))).heap[w1.heap.size]? = some (.cells #[.int .u8 kd, .string tb0, .int .i64 ps] 72 (0, 0))) := Lib.hid (heap_alloc_last _ _)
    obtain ⟨A, hA⟩ : ∃ A, w1.heap.size = A := ⟨_, rfl⟩
    rw [hA] at HA1
    have HAZ := Lib.hid hA
    clear hb
    go_wp2_with fail
    refine (H91.out _ HV1.out.st).mono ?_; rintro x w2 ⟨rfl, hb⟩
    have HV2 := Lib.hid (HV1.out.below hb)
    have HA2 := Lib.hid ((hb.block A (heap_lt HA1.out)).trans HA1.out)
    clear hb
    go_wp2_with fail
    refine (H123.out _ HV2.out.st).mono ?_; rintro x w4 ⟨rfl, hb⟩
    have HV4 := Lib.hid (HV2.out.below hb)
    have HA4 := Lib.hid ((hb.block A (heap_lt HA2.out)).trans HA2.out)
    clear hb
  case' false =>
    simp only [Bool.not_false, Bool.true_and] at m36
    have H36 : Hid (∀ W', LS p tb off cap T false k op (.slice av nv cv) W' → Calls Tryz.prog 82 #[.pointer (some ⟨p, 0, none⟩), .int .u8 4, .string ⟨#[36]⟩] W' fun x w' => x = .returned (.bool false) ∧ Below W'.heap.size W' w') := Lib.hid fun W' hW => by
        have := HIS.out ⟨#[36]⟩ W' hW
        rw [show (⟨#[36]⟩ : ByteArray).data.toList = [36] from rfl, m36] at this; exact this
    clear m36
    go_enter Tryz.func91, Tryz.ntmps91
    go_wp2_with fail
    refine (HLK.out _ HV0.out.st).mono ?_; rintro x w1 ⟨rfl, hb⟩
    have HV1 := Lib.hid ((HV0.out.below hb).alloc (.cells #[.int .u8 kd, .string tb0, .int .i64 ps] 72 (0, 0)))
    have HA1 : Hid ((w1.alloc (.cells #[.int .u8 kd, .string tb0, .int .i64 ps] 72 (0, 0))).heap[w1.heap.size]? = some (.cells #[.int .u8 kd, .string tb0, .int .i64 ps] 72 (0, 0))) := Lib.hid (heap_alloc_last _ _)
    obtain ⟨A, hA⟩ : ∃ A, w1.heap.size = A := ⟨_, rfl⟩
    rw [hA] at HA1
    have HAZ := Lib.hid hA
    clear hb
    go_wp2_with fail
    refine (H91.out _ HV1.out.st).mono ?_; rintro x w2 ⟨rfl, hb⟩
    have HV2 := Lib.hid (HV1.out.below hb)
    have HA2 := Lib.hid ((hb.block A (heap_lt HA1.out)).trans HA1.out)
    clear hb
    go_wp2_with fail
    refine (H123.out _ HV2.out.st).mono ?_; rintro x w3 ⟨rfl, hb⟩
    have HV3 := Lib.hid (HV2.out.below hb)
    have HA3 := Lib.hid ((hb.block A (heap_lt HA2.out)).trans HA2.out)
    clear hb
    obtain ⟨c0, c1, c2, c3, c4⟩ := HV3.out.st.cells
    go_wp2_with fail
    refine (H36.out _ HV3.out.st).mono ?_; rintro x w4 ⟨rfl, hb⟩
    have HV4 := Lib.hid (HV3.out.below hb)
    have HA4 := Lib.hid ((hb.block A (heap_lt HA3.out)).trans HA3.out)
    clear hb
    clear c0 c1 c2 c3 c4
  all_goals
    obtain ⟨c0, c1, c2, c3, c4⟩ := HV4.out.st.cells
    obtain ⟨a0, a1, a2⟩ := tcells HA4.out
    have hA4 : A < w4.heap.size := heap_lt HA4.out
    have hp4 : p < w4.heap.size := HV4.out.st.lt
    go_wp2_with fail
    have hpy : p ≤ w4.heap.size := Nat.le_of_lt hp4
    refine (HNO.out _ _ HV4.out.st).mono ?_; rintro x y4 ⟨rfl, hb⟩
    have HB9 := Lib.hid (HV4.out.vk.1.trans (hb.mono hpy))
    clear hb
    go_wp2_with fail
    exact ⟨rfl, rfl, HB9.out⟩
set_option maxRecDepth 100000 in
set_option maxHeartbeats 4000000 in
theorem l_value_full1 {p tb off cap : Nat} {T : List Tok} {fx : Bool} {k : Nat} {op : Int} (v : Value) (L : List Cel) (name : ByteArray) (W : World) (h : LS p tb off cap T fx k op v W) (hown : OwnC (p + 1) v L W) (hL : L.length ≤ 2048) (hk : k ≤ 100000) (hf : L.length = 2048) (hkk : (lookP T k).kind = 1) :
    Calls Tryz.prog 91 #[.pointer (some ⟨p, 0, none⟩), .string name] W (LVE p tb off cap T fx W v op (.error (4, k))) := by
  have HV0 : Hid (LV p tb off cap T fx W v v L k op W) := Lib.hid ⟨h, hown, VK.refl _ _ _, fun k hk => Or.inl hk⟩
  have HLK := Lib.hid (fun (W : World) (hW : LS p tb off cap T fx k op v W) => l_look W hW)
  have HIS := Lib.hid (fun (s : ByteArray) (W : World) (hW : LS p tb off cap T fx k op v W) => l_is s W hW)
  have HNO := Lib.hid (fun (e : Int) (W : World) (hW : LS p tb off cap T fx k op v W) => l_no e W hW)
  have hw1 : IntKind.i64.wrap ((k : Int) + 1) = (k : Int) + 1 := IntWalk.i64_in _ (by omega)
  have hvl : ∃ a n c, v = .slice a n c ∧ n = L.length := by
    rcases HV0.out.own.2 with ⟨h1, h2⟩ | ⟨g, cap, cur, h1, _⟩
    · exact ⟨none, 0, 0, h1, h2.symm⟩
    · exact ⟨_, _, _, h1, rfl⟩
  obtain ⟨av, nv, cv, rfl, hnv⟩ := hvl
  have HNV := Lib.hid hnv
  have hnv8 : nv ≤ 2048 := by omega
  clear h hown
  have tf : ((nv : Int) == 2048) = true := by rw [beq_iff_eq]; omega
  have hno := mrk_no (T := T) (k := k) (by rw [hkk]; decide)
  simp only [hno] at HIS
  obtain ⟨kd, hkd⟩ : ∃ kd : Int, ((lookP T k).kind.toNat : Int) = kd := ⟨_, rfl⟩
  obtain ⟨tb0, htb0⟩ : ∃ b : ByteArray, (⟨(lookP T k).text.toArray⟩ : ByteArray) = b := ⟨_, rfl⟩
  obtain ⟨ps, hps⟩ : ∃ ps : Int, (lookP T k).pos = ps := ⟨_, rfl⟩
  have HTX : Hid (tb0.data.toList = (lookP T k).text) := Lib.hid (by rw [← htb0])
  have HTB := Lib.hid htb0
  unfold tokW at HLK
  rw [hkd, htb0, hps] at HLK
  have hkd2 : kd = 1 := by rw [← hkd, hkk]; rfl
  subst hkd2
  clear hkd htb0 hps hkk hno hnv
  cases fx
  case' true =>
    go_enter Tryz.func91, Tryz.ntmps91
    go_wp2_with fail
    refine (HLK.out _ HV0.out.st).mono ?_; rintro x w1 ⟨rfl, hb⟩
    have HV1 := Lib.hid ((HV0.out.below hb).alloc (.cells #[.int .u8 1, .string tb0, .int .i64 ps] 72 (0, 0)))
    have HA1 : Hid ((w1.alloc (.cells #[.int .u8 1, .string tb0, .int .i64 ps] 72 (0, 0))).heap[w1.heap.size]? = some (.cells #[.int .u8 1, .string tb0, .int .i64 ps] 72 (0, 0))) := Lib.hid (heap_alloc_last _ _)
    obtain ⟨A, hA⟩ : ∃ A, w1.heap.size = A := ⟨_, rfl⟩
    rw [hA] at HA1
    have HAZ := Lib.hid hA
    clear hb
    go_wp2_with fail
    refine (HIS.out _ _ HV1.out.st).mono ?_; rintro x w2 ⟨rfl, hb⟩
    have HV2 := Lib.hid (HV1.out.below hb)
    have HA2 := Lib.hid ((hb.block A (heap_lt HA1.out)).trans HA1.out)
    clear hb
    go_wp2_with fail
    refine (HIS.out _ _ HV2.out.st).mono ?_; rintro x w4 ⟨rfl, hb⟩
    have HV4 := Lib.hid (HV2.out.below hb)
    have HA4 := Lib.hid ((hb.block A (heap_lt HA2.out)).trans HA2.out)
    clear hb
  case' false =>
    go_enter Tryz.func91, Tryz.ntmps91
    go_wp2_with fail
    refine (HLK.out _ HV0.out.st).mono ?_; rintro x w1 ⟨rfl, hb⟩
    have HV1 := Lib.hid ((HV0.out.below hb).alloc (.cells #[.int .u8 1, .string tb0, .int .i64 ps] 72 (0, 0)))
    have HA1 : Hid ((w1.alloc (.cells #[.int .u8 1, .string tb0, .int .i64 ps] 72 (0, 0))).heap[w1.heap.size]? = some (.cells #[.int .u8 1, .string tb0, .int .i64 ps] 72 (0, 0))) := Lib.hid (heap_alloc_last _ _)
    obtain ⟨A, hA⟩ : ∃ A, w1.heap.size = A := ⟨_, rfl⟩
    rw [hA] at HA1
    have HAZ := Lib.hid hA
    clear hb
    go_wp2_with fail
    refine (HIS.out _ _ HV1.out.st).mono ?_; rintro x w2 ⟨rfl, hb⟩
    have HV2 := Lib.hid (HV1.out.below hb)
    have HA2 := Lib.hid ((hb.block A (heap_lt HA1.out)).trans HA1.out)
    clear hb
    go_wp2_with fail
    refine (HIS.out _ _ HV2.out.st).mono ?_; rintro x w3 ⟨rfl, hb⟩
    have HV3 := Lib.hid (HV2.out.below hb)
    have HA3 := Lib.hid ((hb.block A (heap_lt HA2.out)).trans HA2.out)
    clear hb
    obtain ⟨c0, c1, c2, c3, c4⟩ := HV3.out.st.cells
    go_wp2_with fail
    refine (HIS.out _ _ HV3.out.st).mono ?_; rintro x w4 ⟨rfl, hb⟩
    have HV4 := Lib.hid (HV3.out.below hb)
    have HA4 := Lib.hid ((hb.block A (heap_lt HA3.out)).trans HA3.out)
    clear hb
    clear c0 c1 c2 c3 c4
  all_goals
    obtain ⟨c0, c1, c2, c3, c4⟩ := HV4.out.st.cells
    obtain ⟨a0, a1, a2⟩ := tcells HA4.out
    have hA4 : A < w4.heap.size := heap_lt HA4.out
    have hp4 : p < w4.heap.size := HV4.out.st.lt
    go_wp2_with fail
    have hpy : p ≤ w4.heap.size := Nat.le_of_lt hp4
    refine (HNO.out _ _ HV4.out.st).mono ?_; rintro x y4 ⟨rfl, hb⟩
    have HB9 := Lib.hid (HV4.out.vk.1.trans (hb.mono hpy))
    clear hb
    go_wp2_with fail
    exact ⟨rfl, rfl, HB9.out⟩
set_option maxRecDepth 100000 in
set_option maxHeartbeats 4000000 in
theorem l_value_full2 {p tb off cap : Nat} {T : List Tok} {fx : Bool} {k : Nat} {op : Int} (v : Value) (L : List Cel) (name : ByteArray) (W : World) (h : LS p tb off cap T fx k op v W) (hown : OwnC (p + 1) v L W) (hL : L.length ≤ 2048) (hk : k ≤ 100000) (hf : L.length = 2048) (hkk : (lookP T k).kind = 2) :
    Calls Tryz.prog 91 #[.pointer (some ⟨p, 0, none⟩), .string name] W (LVE p tb off cap T fx W v op (.error (4, k))) := by
  have HV0 : Hid (LV p tb off cap T fx W v v L k op W) := Lib.hid ⟨h, hown, VK.refl _ _ _, fun k hk => Or.inl hk⟩
  have HLK := Lib.hid (fun (W : World) (hW : LS p tb off cap T fx k op v W) => l_look W hW)
  have HIS := Lib.hid (fun (s : ByteArray) (W : World) (hW : LS p tb off cap T fx k op v W) => l_is s W hW)
  have HNO := Lib.hid (fun (e : Int) (W : World) (hW : LS p tb off cap T fx k op v W) => l_no e W hW)
  have hw1 : IntKind.i64.wrap ((k : Int) + 1) = (k : Int) + 1 := IntWalk.i64_in _ (by omega)
  have hvl : ∃ a n c, v = .slice a n c ∧ n = L.length := by
    rcases HV0.out.own.2 with ⟨h1, h2⟩ | ⟨g, cap, cur, h1, _⟩
    · exact ⟨none, 0, 0, h1, h2.symm⟩
    · exact ⟨_, _, _, h1, rfl⟩
  obtain ⟨av, nv, cv, rfl, hnv⟩ := hvl
  have HNV := Lib.hid hnv
  have hnv8 : nv ≤ 2048 := by omega
  clear h hown
  have tf : ((nv : Int) == 2048) = true := by rw [beq_iff_eq]; omega
  have hno := mrk_no (T := T) (k := k) (by rw [hkk]; decide)
  simp only [hno] at HIS
  obtain ⟨kd, hkd⟩ : ∃ kd : Int, ((lookP T k).kind.toNat : Int) = kd := ⟨_, rfl⟩
  obtain ⟨tb0, htb0⟩ : ∃ b : ByteArray, (⟨(lookP T k).text.toArray⟩ : ByteArray) = b := ⟨_, rfl⟩
  obtain ⟨ps, hps⟩ : ∃ ps : Int, (lookP T k).pos = ps := ⟨_, rfl⟩
  have HTX : Hid (tb0.data.toList = (lookP T k).text) := Lib.hid (by rw [← htb0])
  have HTB := Lib.hid htb0
  unfold tokW at HLK
  rw [hkd, htb0, hps] at HLK
  have hkd2 : kd = 2 := by rw [← hkd, hkk]; rfl
  subst hkd2
  clear hkd htb0 hps hkk hno hnv
  cases fx
  case' true =>
    go_enter Tryz.func91, Tryz.ntmps91
    go_wp2_with fail
    refine (HLK.out _ HV0.out.st).mono ?_; rintro x w1 ⟨rfl, hb⟩
    have HV1 := Lib.hid ((HV0.out.below hb).alloc (.cells #[.int .u8 2, .string tb0, .int .i64 ps] 72 (0, 0)))
    have HA1 : Hid ((w1.alloc (.cells #[.int .u8 2, .string tb0, .int .i64 ps] 72 (0, 0))).heap[w1.heap.size]? = some (.cells #[.int .u8 2, .string tb0, .int .i64 ps] 72 (0, 0))) := Lib.hid (heap_alloc_last _ _)
    obtain ⟨A, hA⟩ : ∃ A, w1.heap.size = A := ⟨_, rfl⟩
    rw [hA] at HA1
    have HAZ := Lib.hid hA
    clear hb
    go_wp2_with fail
    refine (HIS.out _ _ HV1.out.st).mono ?_; rintro x w2 ⟨rfl, hb⟩
    have HV2 := Lib.hid (HV1.out.below hb)
    have HA2 := Lib.hid ((hb.block A (heap_lt HA1.out)).trans HA1.out)
    clear hb
    go_wp2_with fail
    refine (HIS.out _ _ HV2.out.st).mono ?_; rintro x w4 ⟨rfl, hb⟩
    have HV4 := Lib.hid (HV2.out.below hb)
    have HA4 := Lib.hid ((hb.block A (heap_lt HA2.out)).trans HA2.out)
    clear hb
  case' false =>
    go_enter Tryz.func91, Tryz.ntmps91
    go_wp2_with fail
    refine (HLK.out _ HV0.out.st).mono ?_; rintro x w1 ⟨rfl, hb⟩
    have HV1 := Lib.hid ((HV0.out.below hb).alloc (.cells #[.int .u8 2, .string tb0, .int .i64 ps] 72 (0, 0)))
    have HA1 : Hid ((w1.alloc (.cells #[.int .u8 2, .string tb0, .int .i64 ps] 72 (0, 0))).heap[w1.heap.size]? = some (.cells #[.int .u8 2, .string tb0, .int .i64 ps] 72 (0, 0))) := Lib.hid (heap_alloc_last _ _)
    obtain ⟨A, hA⟩ : ∃ A, w1.heap.size = A := ⟨_, rfl⟩
    rw [hA] at HA1
    have HAZ := Lib.hid hA
    clear hb
    go_wp2_with fail
    refine (HIS.out _ _ HV1.out.st).mono ?_; rintro x w2 ⟨rfl, hb⟩
    have HV2 := Lib.hid (HV1.out.below hb)
    have HA2 := Lib.hid ((hb.block A (heap_lt HA1.out)).trans HA1.out)
    clear hb
    go_wp2_with fail
    refine (HIS.out _ _ HV2.out.st).mono ?_; rintro x w3 ⟨rfl, hb⟩
    have HV3 := Lib.hid (HV2.out.below hb)
    have HA3 := Lib.hid ((hb.block A (heap_lt HA2.out)).trans HA2.out)
    clear hb
    obtain ⟨c0, c1, c2, c3, c4⟩ := HV3.out.st.cells
    go_wp2_with fail
    refine (HIS.out _ _ HV3.out.st).mono ?_; rintro x w4 ⟨rfl, hb⟩
    have HV4 := Lib.hid (HV3.out.below hb)
    have HA4 := Lib.hid ((hb.block A (heap_lt HA3.out)).trans HA3.out)
    clear hb
    clear c0 c1 c2 c3 c4
  all_goals
    obtain ⟨c0, c1, c2, c3, c4⟩ := HV4.out.st.cells
    obtain ⟨a0, a1, a2⟩ := tcells HA4.out
    have hA4 : A < w4.heap.size := heap_lt HA4.out
    have hp4 : p < w4.heap.size := HV4.out.st.lt
    go_wp2_with fail
    have hpy : p ≤ w4.heap.size := Nat.le_of_lt hp4
    refine (HNO.out _ _ HV4.out.st).mono ?_; rintro x y4 ⟨rfl, hb⟩
    have HB9 := Lib.hid (HV4.out.vk.1.trans (hb.mono hpy))
    clear hb
    go_wp2_with fail
    exact ⟨rfl, rfl, HB9.out⟩
set_option maxRecDepth 100000 in
set_option maxHeartbeats 4000000 in
theorem l_value_full3 {p tb off cap : Nat} {T : List Tok} {fx : Bool} {k : Nat} {op : Int} (v : Value) (L : List Cel) (name : ByteArray) (W : World) (h : LS p tb off cap T fx k op v W) (hown : OwnC (p + 1) v L W) (hL : L.length ≤ 2048) (hk : k ≤ 100000) (hf : L.length = 2048) (hkk : (lookP T k).kind = 3) :
    Calls Tryz.prog 91 #[.pointer (some ⟨p, 0, none⟩), .string name] W (LVE p tb off cap T fx W v op (.error (4, k))) := by
  have HV0 : Hid (LV p tb off cap T fx W v v L k op W) := Lib.hid ⟨h, hown, VK.refl _ _ _, fun k hk => Or.inl hk⟩
  have HLK := Lib.hid (fun (W : World) (hW : LS p tb off cap T fx k op v W) => l_look W hW)
  have HIS := Lib.hid (fun (s : ByteArray) (W : World) (hW : LS p tb off cap T fx k op v W) => l_is s W hW)
  have HNO := Lib.hid (fun (e : Int) (W : World) (hW : LS p tb off cap T fx k op v W) => l_no e W hW)
  have hw1 : IntKind.i64.wrap ((k : Int) + 1) = (k : Int) + 1 := IntWalk.i64_in _ (by omega)
  have hvl : ∃ a n c, v = .slice a n c ∧ n = L.length := by
    rcases HV0.out.own.2 with ⟨h1, h2⟩ | ⟨g, cap, cur, h1, _⟩
    · exact ⟨none, 0, 0, h1, h2.symm⟩
    · exact ⟨_, _, _, h1, rfl⟩
  obtain ⟨av, nv, cv, rfl, hnv⟩ := hvl
  have HNV := Lib.hid hnv
  have hnv8 : nv ≤ 2048 := by omega
  clear h hown
  have tf : ((nv : Int) == 2048) = true := by rw [beq_iff_eq]; omega
  have hno := mrk_no (T := T) (k := k) (by rw [hkk]; decide)
  simp only [hno] at HIS
  obtain ⟨kd, hkd⟩ : ∃ kd : Int, ((lookP T k).kind.toNat : Int) = kd := ⟨_, rfl⟩
  obtain ⟨tb0, htb0⟩ : ∃ b : ByteArray, (⟨(lookP T k).text.toArray⟩ : ByteArray) = b := ⟨_, rfl⟩
  obtain ⟨ps, hps⟩ : ∃ ps : Int, (lookP T k).pos = ps := ⟨_, rfl⟩
  have HTX : Hid (tb0.data.toList = (lookP T k).text) := Lib.hid (by rw [← htb0])
  have HTB := Lib.hid htb0
  unfold tokW at HLK
  rw [hkd, htb0, hps] at HLK
  have hkd2 : kd = 3 := by rw [← hkd, hkk]; rfl
  subst hkd2
  clear hkd htb0 hps hkk hno hnv
  cases fx
  case' true =>
    go_enter Tryz.func91, Tryz.ntmps91
    go_wp2_with fail
    refine (HLK.out _ HV0.out.st).mono ?_; rintro x w1 ⟨rfl, hb⟩
    have HV1 := Lib.hid ((HV0.out.below hb).alloc (.cells #[.int .u8 3, .string tb0, .int .i64 ps] 72 (0, 0)))
    have HA1 : Hid ((w1.alloc (.cells #[.int .u8 3, .string tb0, .int .i64 ps] 72 (0, 0))).heap[w1.heap.size]? = some (.cells #[.int .u8 3, .string tb0, .int .i64 ps] 72 (0, 0))) := Lib.hid (heap_alloc_last _ _)
    obtain ⟨A, hA⟩ : ∃ A, w1.heap.size = A := ⟨_, rfl⟩
    rw [hA] at HA1
    have HAZ := Lib.hid hA
    clear hb
    go_wp2_with fail
    refine (HIS.out _ _ HV1.out.st).mono ?_; rintro x w2 ⟨rfl, hb⟩
    have HV2 := Lib.hid (HV1.out.below hb)
    have HA2 := Lib.hid ((hb.block A (heap_lt HA1.out)).trans HA1.out)
    clear hb
    go_wp2_with fail
    refine (HIS.out _ _ HV2.out.st).mono ?_; rintro x w4 ⟨rfl, hb⟩
    have HV4 := Lib.hid (HV2.out.below hb)
    have HA4 := Lib.hid ((hb.block A (heap_lt HA2.out)).trans HA2.out)
    clear hb
  case' false =>
    go_enter Tryz.func91, Tryz.ntmps91
    go_wp2_with fail
    refine (HLK.out _ HV0.out.st).mono ?_; rintro x w1 ⟨rfl, hb⟩
    have HV1 := Lib.hid ((HV0.out.below hb).alloc (.cells #[.int .u8 3, .string tb0, .int .i64 ps] 72 (0, 0)))
    have HA1 : Hid ((w1.alloc (.cells #[.int .u8 3, .string tb0, .int .i64 ps] 72 (0, 0))).heap[w1.heap.size]? = some (.cells #[.int .u8 3, .string tb0, .int .i64 ps] 72 (0, 0))) := Lib.hid (heap_alloc_last _ _)
    obtain ⟨A, hA⟩ : ∃ A, w1.heap.size = A := ⟨_, rfl⟩
    rw [hA] at HA1
    have HAZ := Lib.hid hA
    clear hb
    go_wp2_with fail
    refine (HIS.out _ _ HV1.out.st).mono ?_; rintro x w2 ⟨rfl, hb⟩
    have HV2 := Lib.hid (HV1.out.below hb)
    have HA2 := Lib.hid ((hb.block A (heap_lt HA1.out)).trans HA1.out)
    clear hb
    go_wp2_with fail
    refine (HIS.out _ _ HV2.out.st).mono ?_; rintro x w3 ⟨rfl, hb⟩
    have HV3 := Lib.hid (HV2.out.below hb)
    have HA3 := Lib.hid ((hb.block A (heap_lt HA2.out)).trans HA2.out)
    clear hb
    obtain ⟨c0, c1, c2, c3, c4⟩ := HV3.out.st.cells
    go_wp2_with fail
    refine (HIS.out _ _ HV3.out.st).mono ?_; rintro x w4 ⟨rfl, hb⟩
    have HV4 := Lib.hid (HV3.out.below hb)
    have HA4 := Lib.hid ((hb.block A (heap_lt HA3.out)).trans HA3.out)
    clear hb
    clear c0 c1 c2 c3 c4
  all_goals
    obtain ⟨c0, c1, c2, c3, c4⟩ := HV4.out.st.cells
    obtain ⟨a0, a1, a2⟩ := tcells HA4.out
    have hA4 : A < w4.heap.size := heap_lt HA4.out
    have hp4 : p < w4.heap.size := HV4.out.st.lt
    go_wp2_with fail
    have hpy : p ≤ w4.heap.size := Nat.le_of_lt hp4
    refine (HNO.out _ _ HV4.out.st).mono ?_; rintro x y4 ⟨rfl, hb⟩
    have HB9 := Lib.hid (HV4.out.vk.1.trans (hb.mono hpy))
    clear hb
    go_wp2_with fail
    exact ⟨rfl, rfl, HB9.out⟩
end Go.Proofs.YtgaknbnhmoddcaaGreatDoor
namespace Go.Proofs.YtgaknbnhmoddcaaGreatDoor
open Go.RowKit Go.Lib
set_option maxRecDepth 100000 in
set_option maxHeartbeats 4000000 in
theorem l_value_enum {p tb off cap : Nat} {T : List Tok} {fx : Bool} {k : Nat} {op : Int} (v : Value) (L : List Cel) (name : ByteArray) (W : World) (h : LS p tb off cap T fx k op v W) (hown : OwnC (p + 1) v L W) (hL : L.length ≤ 2048) (hk : k ≤ 100000) (hf : L.length ≠ 2048) (hkk : (lookP T k).kind = 1) (h110 : (lookP T k).text ≠ [110, 117, 108, 108]) (h116 : (lookP T k).text ≠ [116, 114, 117, 101]) (h102 : (lookP T k).text ≠ [102, 97, 108, 115, 101]) :
    Calls Tryz.prog 91 #[.pointer (some ⟨p, 0, none⟩), .string name] W (LVE p tb off cap T fx W v op (.ok (k + 1, L ++ [⟨4, name.data.toList, (lookP T k).text, 0, 0⟩]))) := by
  have HV0 : Hid (LV p tb off cap T fx W v v L k op W) := Lib.hid ⟨h, hown, VK.refl _ _ _, fun k hk => Or.inl hk⟩
  have HLK := Lib.hid (fun (W : World) (hW : LS p tb off cap T fx k op v W) => l_look W hW)
  have HIS := Lib.hid (fun (s : ByteArray) (W : World) (hW : LS p tb off cap T fx k op v W) => l_is s W hW)
  have HNO := Lib.hid (fun (e : Int) (W : World) (hW : LS p tb off cap T fx k op v W) => l_no e W hW)
  have hw1 : IntKind.i64.wrap ((k : Int) + 1) = (k : Int) + 1 := IntWalk.i64_in _ (by omega)
  have hvl : ∃ a n c, v = .slice a n c ∧ n = L.length := by
    rcases HV0.out.own.2 with ⟨h1, h2⟩ | ⟨g, cap, cur, h1, _⟩
    · exact ⟨none, 0, 0, h1, h2.symm⟩
    · exact ⟨_, _, _, h1, rfl⟩
  obtain ⟨av, nv, cv, rfl, hnv⟩ := hvl
  have HNV := Lib.hid hnv
  have hnv8 : nv ≤ 2048 := by omega
  clear h hown
  have hL2 : nv ≤ 2047 := by omega
  have tf : ((nv : Int) == 2048) = false := by rw [beq_eq_false_iff_ne]; omega
  have hno := mrk_no (T := T) (k := k) (by rw [hkk]; decide)
  simp only [hno] at HIS
  obtain ⟨kd, hkd⟩ : ∃ kd : Int, ((lookP T k).kind.toNat : Int) = kd := ⟨_, rfl⟩
  obtain ⟨tb0, htb0⟩ : ∃ b : ByteArray, (⟨(lookP T k).text.toArray⟩ : ByteArray) = b := ⟨_, rfl⟩
  obtain ⟨ps, hps⟩ : ∃ ps : Int, (lookP T k).pos = ps := ⟨_, rfl⟩
  have HTX : Hid (tb0.data.toList = (lookP T k).text) := Lib.hid (by rw [← htb0])
  have HTB := Lib.hid htb0
  unfold tokW at HLK
  rw [hkd, htb0, hps] at HLK
  have hkd2 : kd = 1 := by rw [← hkd, hkk]; rfl
  subst hkd2
  clear hkd htb0 hps hkk hno hnv
  have t110 : (tb0.toList == [110, 117, 108, 108]) = false := by rw [ByteArray.toList_eq, HTX.out]; simp [h110]
  have t116 : (tb0.toList == [116, 114, 117, 101]) = false := by rw [ByteArray.toList_eq, HTX.out]; simp [h116]
  have t102 : (tb0.toList == [102, 97, 108, 115, 101]) = false := by rw [ByteArray.toList_eq, HTX.out]; simp [h102]
  clear h110 h116 h102
  cases fx
  case' true =>
    go_enter Tryz.func91, Tryz.ntmps91
    go_wp2_with fail
    refine (HLK.out _ HV0.out.st).mono ?_; rintro x w1 ⟨rfl, hb⟩
    have HV1 := Lib.hid ((HV0.out.below hb).alloc (.cells #[.int .u8 1, .string tb0, .int .i64 ps] 72 (0, 0)))
    have HA1 : Hid ((w1.alloc (.cells #[.int .u8 1, .string tb0, .int .i64 ps] 72 (0, 0))).heap[w1.heap.size]? = some (.cells #[.int .u8 1, .string tb0, .int .i64 ps] 72 (0, 0))) := Lib.hid (heap_alloc_last _ _)
    obtain ⟨A, hA⟩ : ∃ A, w1.heap.size = A := ⟨_, rfl⟩
    rw [hA] at HA1
    have HAZ := Lib.hid hA
    clear hb
    go_wp2_with fail
    refine (HIS.out _ _ HV1.out.st).mono ?_; rintro x w2 ⟨rfl, hb⟩
    have HV2 := Lib.hid (HV1.out.below hb)
    have HA2 := Lib.hid ((hb.block A (heap_lt HA1.out)).trans HA1.out)
    clear hb
    go_wp2_with fail
    refine (HIS.out _ _ HV2.out.st).mono ?_; rintro x w4 ⟨rfl, hb⟩
    have HV4 := Lib.hid (HV2.out.below hb)
    have HA4 := Lib.hid ((hb.block A (heap_lt HA2.out)).trans HA2.out)
    clear hb
  case' false =>
    go_enter Tryz.func91, Tryz.ntmps91
    go_wp2_with fail
    refine (HLK.out _ HV0.out.st).mono ?_; rintro x w1 ⟨rfl, hb⟩
    have HV1 := Lib.hid ((HV0.out.below hb).alloc (.cells #[.int .u8 1, .string tb0, .int .i64 ps] 72 (0, 0)))
    have HA1 : Hid ((w1.alloc (.cells #[.int .u8 1, .string tb0, .int .i64 ps] 72 (0, 0))).heap[w1.heap.size]? = some (.cells #[.int .u8 1, .string tb0, .int .i64 ps] 72 (0, 0))) := Lib.hid (heap_alloc_last _ _)
    obtain ⟨A, hA⟩ : ∃ A, w1.heap.size = A := ⟨_, rfl⟩
    rw [hA] at HA1
    have HAZ := Lib.hid hA
    clear hb
    go_wp2_with fail
    refine (HIS.out _ _ HV1.out.st).mono ?_; rintro x w2 ⟨rfl, hb⟩
    have HV2 := Lib.hid (HV1.out.below hb)
    have HA2 := Lib.hid ((hb.block A (heap_lt HA1.out)).trans HA1.out)
    clear hb
    go_wp2_with fail
    refine (HIS.out _ _ HV2.out.st).mono ?_; rintro x w3 ⟨rfl, hb⟩
    have HV3 := Lib.hid (HV2.out.below hb)
    have HA3 := Lib.hid ((hb.block A (heap_lt HA2.out)).trans HA2.out)
    clear hb
    obtain ⟨c0, c1, c2, c3, c4⟩ := HV3.out.st.cells
    go_wp2_with fail
    refine (HIS.out _ _ HV3.out.st).mono ?_; rintro x w4 ⟨rfl, hb⟩
    have HV4 := Lib.hid (HV3.out.below hb)
    have HA4 := Lib.hid ((hb.block A (heap_lt HA3.out)).trans HA3.out)
    clear hb
    clear c0 c1 c2 c3 c4
  all_goals
    obtain ⟨c0, c1, c2, c3, c4⟩ := HV4.out.st.cells
    obtain ⟨a0, a1, a2⟩ := tcells HA4.out
    have hA4 : A < w4.heap.size := heap_lt HA4.out
    have hp4 : p < w4.heap.size := HV4.out.st.lt
    go_wp2_with fail
    clear c3 c4
    go_region
    obtain ⟨C, hC⟩ : ∃ C, w4.heap.size = C := ⟨_, rfl⟩
    have HV4a := Lib.hid ((HV4.out.alloc (.cells #[.int .u8 4, .string name, .string tb0, .int .i64 0, .int .i64 0] 63 (0, 0))).drewN 1)
    have HC4 : Hid ((w4.alloc (.cells #[.int .u8 4, .string name, .string tb0, .int .i64 0, .int .i64 0] 63 (0, 0))).drew.heap[C]? = some (.cells #[.int .u8 4, .string name, .string tb0, .int .i64 0, .int .i64 0] 63 (0, 0))) := Lib.hid (by rw [← hC]; exact heap_alloc_last _ _)
    rw [hC]
    obtain ⟨y4, hy4⟩ : ∃ y4, (w4.alloc (.cells #[.int .u8 4, .string name, .string tb0, .int .i64 0, .int .i64 0] 63 (0, 0))).drew = y4 := ⟨_, rfl⟩
    have hpC : p < C := by rw [← hC]; exact hp4
    rw [show (w4.alloc (.cells #[.int .u8 4, .string name, .string tb0, .int .i64 0, .int .i64 0] 63 (0, 0))).drewN 1 = y4 from hy4] at HV4a
    rw [hy4] at HC4 ⊢
    clear hy4 c0 c1 c2 a0 a1 a2 hA4 hp4 hC
    obtain ⟨c0, c1, c2, c3, c4⟩ := HV4a.out.st.cells
    have f1 := HV4a.out.st.frozen 1
    obtain ⟨y5, hy5⟩ : ∃ y5, y4.setCell ⟨p, 1, none⟩ (.int .i64 ((k : Int) + 1)) = y5 := ⟨_, rfl⟩
    have HY5 := Lib.hid (HV4a.out.go (k + 1) (by omega))
    have HC5 : Hid (y5.heap[C]? = some (.cells #[.int .u8 4, .string name, .string tb0, .int .i64 0, .int .i64 0] 63 (0, 0))) := Lib.hid (by rw [← hy5, Below.heap_setCell _ _ _ _ (by show C ≠ p; omega)]; exact HC4.out)
    rw [show y4.setCell ⟨p, 1, none⟩ (.int .i64 ((k + 1 : Nat) : Int)) = y5 from hy5] at HY5
    have HW5 := Lib.hid hy5
    clear hy5
    go_wp2_with fail
    try rw [HW5.out]
    clear c0 c1 c2 c3 c4 f1
    have hlt5 := HY5.out.st.lt
    have hC5 := heap_lt HC5.out
    obtain ⟨_, _, _, _, c4⟩ := HY5.out.st.cells
    have e4 : y5.drew.cell? ⟨p, 4, none⟩ = some (.slice av nv cv) := c4
    have e4' : ∀ o, (y5.drew.alloc o).cell? ⟨p, 4, none⟩ = some (.slice av nv cv) := fun o => by
      rw [World.cell?_alloc_lt _ _ _ (by exact hlt5)]; exact c4
    obtain ⟨q0, q1, q2, q3, q4⟩ := ccells (W := y5.drew) HC5.out
    have HCEL : Hid (celCells ⟨4, name.data.toList, (lookP T k).text, 0, 0⟩ = #[.int .u8 4, .string name, .string tb0, .int .i64 0, .int .i64 0]) := Lib.hid (by rw [← HTB.out]; rfl)
    refine wp_region_held_drew (S := fun _ => True) (by kernel_rfl) trivial (fun hHeld => ?_)
    refine tky 0 (some 160) (v := ?_) rfl (by kernel_rfl) (by kernel_rfl) (by kernel_rfl) (fun _ _ _ h => h) ?_ hHeld ?_
    rotate_left
    focus (intro w hSw; go_simp; (try with_reducible rfl); done)
    go_frame
    refine tky 1 (some 161) (v := ?_) rfl (by kernel_rfl) (by kernel_rfl) (by kernel_rfl) (fun _ _ _ h => h) ?_ hHeld ?_
    rotate_left
    focus (intro w hSw; go_simp; (try with_reducible rfl); done)
    go_frame
    refine tky 2 (some 162) (v := ?_) rfl (by kernel_rfl) (by kernel_rfl) (by kernel_rfl) (fun _ _ _ h => h) ?_ hHeld ?_
    rotate_left
    focus (intro w hSw; go_simp; (try with_reducible rfl); done)
    go_frame
    refine tky 3 (some 163) (v := ?_) rfl (by kernel_rfl) (by kernel_rfl) (by kernel_rfl) (fun _ _ _ h => h) ?_ hHeld ?_
    rotate_left
    focus (intro w hSw; go_simp; (try with_reducible rfl); done)
    go_frame
    refine wpAnyH_ready (rs := [4, 5]) (by kernel_rfl) (by simp) ?_
    refine acons 4 rfl (fun K hK => ?_) ?_
    go_simp
    refine hK.out _ _ trivial (fun _ => ?_)
    clear hK K
    (try go_frame)
    refine rcons 5 rfl (by kernel_rfl) (fun K hK => ?_)
    go_simp
    refine hK.out _ _ trivial (fun _ => ?_)
    clear hK K
    (try go_frame)
    refine rcons 6 rfl (by kernel_rfl) (fun K hK => ?_)
    go_simp
    refine hK.out _ _ trivial (fun _ => ?_)
    clear hK K
    (try go_frame)
    rotate_left
    refine acons 5 rfl (fun K hK => ?_) ?_
    go_simp
    refine hK.out _ _ trivial (fun _ => ?_)
    clear hK K
    (try go_frame)
    refine wpAnyH_ready (rs := [4, 6]) (by kernel_rfl) (by simp) ?_
    refine acons 4 rfl (fun K hK => ?_) ?_
    go_simp
    refine hK.out _ _ trivial (fun _ => ?_)
    clear hK K
    (try go_frame)
    refine rcons 6 rfl (by kernel_rfl) (fun K hK => ?_)
    go_simp
    refine hK.out _ _ trivial (fun _ => ?_)
    clear hK K
    (try go_frame)
    rotate_left
    refine acons 6 rfl (fun K hK => ?_) ?_
    go_simp
    refine hK.out _ _ trivial (fun _ => ?_)
    clear hK K
    (try go_frame)
    refine rcons 4 rfl (by kernel_rfl) (fun K hK => ?_)
    go_simp
    refine hK.out _ _ trivial (fun _ => ?_)
    clear hK K
    (try go_frame)
    rotate_left
    exact AllReadyH.nil
    exact AllReadyH.nil
    all_goals
      refine rcons 7 rfl (by kernel_rfl) (fun K hK => ?_)
      rw [if_pos]
      rotate_left
      focus kernel_rfl
      refine wp_pushL _ _ rfl (p + 1) (.slice av nv cv) L rfl (by exact ((HY5.out.drewN 1).alloc _).own) y5.heap.size 1 ⟨4, name.data.toList, (lookP T k).text, 0, 0⟩ rfl (by rw [HCEL.out]; exact heap_alloc_last y5.drew _) (by omega) (by show _ ≤ Array.size _; simp; omega) ?_
      intro v' y6 hown' hgrow hat
      obtain ⟨g6, cap6, hvg, -⟩ := hown'.form L.length (by simp)
      generalize (L ++ [(⟨4, name.data.toList, (lookP T k).text, 0, 0⟩ : Cel)]).length = n6 at hvg
      subst hvg
      obtain ⟨hst6, hy6⟩ := LV.grown ((HY5.out.drewN 1).alloc _) hown' hgrow hat rfl
      have HY6 := Lib.hid hy6
      obtain ⟨_, _, _, _, g4⟩ := hst6.cells
      have f6 := hst6.frozen 4
      clear hown' hgrow hat hst6 hy6
      (try dsimp only)
      refine hK.out _ _ trivial (fun _ => ?_)
      clear hK K
      (try go_frame)
      refine tky 8 (some 168) (v := ?_) rfl (by kernel_rfl) (by kernel_rfl) (by kernel_rfl) (fun _ _ _ h => h) ?_ hHeld ?_
      rotate_left
      focus (intro w hSw; go_simp; (try with_reducible rfl); done)
      go_frame
      refine tky 9 (some 169) (v := ?_) rfl (by kernel_rfl) (by kernel_rfl) (by kernel_rfl) (fun _ _ _ h => h) ?_ hHeld ?_
      rotate_left
      focus (intro w hSw; go_simp; (try with_reducible rfl); done)
      go_frame
      refine rcons 10 rfl (by kernel_rfl) (fun K hK => ?_)
      go_simp
      refine hK.out _ _ trivial (fun _ => ?_)
      clear hK K
      (try go_frame)
      refine wpAnyH_done (by kernel_rfl) ?_ _
      go_wp2_with fail
      go_end0
      exact ⟨rfl, by simp; omega, _, HY6.out⟩
end Go.Proofs.YtgaknbnhmoddcaaGreatDoor
namespace Go.Proofs.YtgaknbnhmoddcaaGreatDoor
open Go.RowKit Go.Lib
set_option maxRecDepth 100000 in
set_option maxHeartbeats 4000000 in
theorem l_value_null {p tb off cap : Nat} {T : List Tok} {fx : Bool} {k : Nat} {op : Int} (v : Value) (L : List Cel) (name : ByteArray) (W : World) (h : LS p tb off cap T fx k op v W) (hown : OwnC (p + 1) v L W) (hL : L.length ≤ 2048) (hk : k ≤ 100000) (hf : L.length ≠ 2048) (hkk : (lookP T k).kind = 1) (hx : (lookP T k).text = [110, 117, 108, 108]) :
    Calls Tryz.prog 91 #[.pointer (some ⟨p, 0, none⟩), .string name] W (LVE p tb off cap T fx W v op (.ok (k + 1, L ++ [⟨0, name.data.toList, [], 0, 0⟩]))) := by
  have HV0 : Hid (LV p tb off cap T fx W v v L k op W) := Lib.hid ⟨h, hown, VK.refl _ _ _, fun k hk => Or.inl hk⟩
  have HLK := Lib.hid (fun (W : World) (hW : LS p tb off cap T fx k op v W) => l_look W hW)
  have HIS := Lib.hid (fun (s : ByteArray) (W : World) (hW : LS p tb off cap T fx k op v W) => l_is s W hW)
  have HNO := Lib.hid (fun (e : Int) (W : World) (hW : LS p tb off cap T fx k op v W) => l_no e W hW)
  have hw1 : IntKind.i64.wrap ((k : Int) + 1) = (k : Int) + 1 := IntWalk.i64_in _ (by omega)
  have hvl : ∃ a n c, v = .slice a n c ∧ n = L.length := by
    rcases HV0.out.own.2 with ⟨h1, h2⟩ | ⟨g, cap, cur, h1, _⟩
    · exact ⟨none, 0, 0, h1, h2.symm⟩
    · exact ⟨_, _, _, h1, rfl⟩
  obtain ⟨av, nv, cv, rfl, hnv⟩ := hvl
  have HNV := Lib.hid hnv
  have hnv8 : nv ≤ 2048 := by omega
  clear h hown
  have hL2 : nv ≤ 2047 := by omega
  have tf : ((nv : Int) == 2048) = false := by rw [beq_eq_false_iff_ne]; omega
  have hno := mrk_no (T := T) (k := k) (by rw [hkk]; decide)
  simp only [hno] at HIS
  obtain ⟨kd, hkd⟩ : ∃ kd : Int, ((lookP T k).kind.toNat : Int) = kd := ⟨_, rfl⟩
  obtain ⟨tb0, htb0⟩ : ∃ b : ByteArray, (⟨(lookP T k).text.toArray⟩ : ByteArray) = b := ⟨_, rfl⟩
  obtain ⟨ps, hps⟩ : ∃ ps : Int, (lookP T k).pos = ps := ⟨_, rfl⟩
  have HTX : Hid (tb0.data.toList = (lookP T k).text) := Lib.hid (by rw [← htb0])
  have HTB := Lib.hid htb0
  unfold tokW at HLK
  rw [hkd, htb0, hps] at HLK
  have hkd2 : kd = 1 := by rw [← hkd, hkk]; rfl
  subst hkd2
  clear hkd htb0 hps hkk hno hnv
  have t110 : (tb0.toList == [110, 117, 108, 108]) = true := by rw [ByteArray.toList_eq, HTX.out, hx]; decide
  have t116 : (tb0.toList == [116, 114, 117, 101]) = false := by rw [ByteArray.toList_eq, HTX.out, hx]; decide
  have t102 : (tb0.toList == [102, 97, 108, 115, 101]) = false := by rw [ByteArray.toList_eq, HTX.out, hx]; decide
  clear hx
  cases fx
  case' true =>
    go_enter Tryz.func91, Tryz.ntmps91
    go_wp2_with fail
    refine (HLK.out _ HV0.out.st).mono ?_; rintro x w1 ⟨rfl, hb⟩
    have HV1 := Lib.hid ((HV0.out.below hb).alloc (.cells #[.int .u8 1, .string tb0, .int .i64 ps] 72 (0, 0)))
    have HA1 : Hid ((w1.alloc (.cells #[.int .u8 1, .string tb0, .int .i64 ps] 72 (0, 0))).heap[w1.heap.size]? = some (.cells #[.int .u8 1, .string tb0, .int .i64 ps] 72 (0, 0))) := Lib.hid (heap_alloc_last _ _)
    obtain ⟨A, hA⟩ : ∃ A, w1.heap.size = A := ⟨_, rfl⟩
    rw [hA] at HA1
    have HAZ := Lib.hid hA
    clear hb
    go_wp2_with fail
    refine (HIS.out _ _ HV1.out.st).mono ?_; rintro x w2 ⟨rfl, hb⟩
    have HV2 := Lib.hid (HV1.out.below hb)
    have HA2 := Lib.hid ((hb.block A (heap_lt HA1.out)).trans HA1.out)
    clear hb
    go_wp2_with fail
    refine (HIS.out _ _ HV2.out.st).mono ?_; rintro x w4 ⟨rfl, hb⟩
    have HV4 := Lib.hid (HV2.out.below hb)
    have HA4 := Lib.hid ((hb.block A (heap_lt HA2.out)).trans HA2.out)
    clear hb
  case' false =>
    go_enter Tryz.func91, Tryz.ntmps91
    go_wp2_with fail
    refine (HLK.out _ HV0.out.st).mono ?_; rintro x w1 ⟨rfl, hb⟩
    have HV1 := Lib.hid ((HV0.out.below hb).alloc (.cells #[.int .u8 1, .string tb0, .int .i64 ps] 72 (0, 0)))
    have HA1 : Hid ((w1.alloc (.cells #[.int .u8 1, .string tb0, .int .i64 ps] 72 (0, 0))).heap[w1.heap.size]? = some (.cells #[.int .u8 1, .string tb0, .int .i64 ps] 72 (0, 0))) := Lib.hid (heap_alloc_last _ _)
    obtain ⟨A, hA⟩ : ∃ A, w1.heap.size = A := ⟨_, rfl⟩
    rw [hA] at HA1
    have HAZ := Lib.hid hA
    clear hb
    go_wp2_with fail
    refine (HIS.out _ _ HV1.out.st).mono ?_; rintro x w2 ⟨rfl, hb⟩
    have HV2 := Lib.hid (HV1.out.below hb)
    have HA2 := Lib.hid ((hb.block A (heap_lt HA1.out)).trans HA1.out)
    clear hb
    go_wp2_with fail
    refine (HIS.out _ _ HV2.out.st).mono ?_; rintro x w3 ⟨rfl, hb⟩
    have HV3 := Lib.hid (HV2.out.below hb)
    have HA3 := Lib.hid ((hb.block A (heap_lt HA2.out)).trans HA2.out)
    clear hb
    obtain ⟨c0, c1, c2, c3, c4⟩ := HV3.out.st.cells
    go_wp2_with fail
    refine (HIS.out _ _ HV3.out.st).mono ?_; rintro x w4 ⟨rfl, hb⟩
    have HV4 := Lib.hid (HV3.out.below hb)
    have HA4 := Lib.hid ((hb.block A (heap_lt HA3.out)).trans HA3.out)
    clear hb
    clear c0 c1 c2 c3 c4
  all_goals
    obtain ⟨c0, c1, c2, c3, c4⟩ := HV4.out.st.cells
    obtain ⟨a0, a1, a2⟩ := tcells HA4.out
    have hA4 : A < w4.heap.size := heap_lt HA4.out
    have hp4 : p < w4.heap.size := HV4.out.st.lt
    have f1 := HV4.out.st.frozen 1
    go_wp2_with fail
    obtain ⟨C, hC⟩ : ∃ C, w4.heap.size = C := ⟨_, rfl⟩
    obtain ⟨y5, hy5⟩ : ∃ y5, (w4.setCell ⟨p, 1, none⟩ (.int .i64 ((k : Int) + 1))).alloc (.cells #[.int .u8 0, .string name, .string ⟨#[]⟩, .int .i64 0, .int .i64 0] 63 (0, 0)) = y5 := ⟨_, rfl⟩
    have HY5 := Lib.hid ((HV4.out.go (k + 1) (by omega)).alloc (.cells #[.int .u8 0, .string name, .string ⟨#[]⟩, .int .i64 0, .int .i64 0] 63 (0, 0)))
    have HC5 : Hid (y5.heap[C]? = some (.cells #[.int .u8 0, .string name, .string ⟨#[]⟩, .int .i64 0, .int .i64 0] 63 (0, 0))) := Lib.hid (by
      have := heap_alloc_last (w4.setCell ⟨p, 1, none⟩ (.int .i64 ((k : Int) + 1))) (.cells #[.int .u8 0, .string name, .string ⟨#[]⟩, .int .i64 0, .int .i64 0] 63 (0, 0))
      simp only [World.size_setCell] at this
      rw [← hy5, ← hC]; exact this)
    rw [show (w4.setCell ⟨p, 1, none⟩ (.int .i64 ((k + 1 : Nat) : Int))).alloc (.cells #[.int .u8 0, .string name, .string ⟨#[]⟩, .int .i64 0, .int .i64 0] 63 (0, 0)) = y5 from hy5] at HY5
    rw [hC, hy5]
    clear hy5 c0 c1 c2 c3 c4 a0 a1 a2 hA4 hp4 hC f1
    have hlt5 := HY5.out.st.lt
    have hC5 := heap_lt HC5.out
    obtain ⟨_, _, _, _, c4⟩ := HY5.out.st.cells
    have e4 : y5.drew.cell? ⟨p, 4, none⟩ = some (.slice av nv cv) := c4
    have e4' : ∀ o, (y5.drew.alloc o).cell? ⟨p, 4, none⟩ = some (.slice av nv cv) := fun o => by
      rw [World.cell?_alloc_lt _ _ _ (by exact hlt5)]; exact c4
    obtain ⟨q0, q1, q2, q3, q4⟩ := ccells (W := y5.drew) HC5.out
    have HCEL : Hid (celCells ⟨0, name.data.toList, [], 0, 0⟩ = #[.int .u8 0, .string name, .string ⟨#[]⟩, .int .i64 0, .int .i64 0]) := Lib.hid (by rfl)
    refine wp_region_held_drew (S := fun _ => True) (by kernel_rfl) trivial (fun hHeld => ?_)
    refine tky 0 (some 160) (v := ?_) rfl (by kernel_rfl) (by kernel_rfl) (by kernel_rfl) (fun _ _ _ h => h) ?_ hHeld ?_
    rotate_left
    focus (intro w hSw; go_simp; (try with_reducible rfl); done)
    go_frame
    refine tky 1 (some 161) (v := ?_) rfl (by kernel_rfl) (by kernel_rfl) (by kernel_rfl) (fun _ _ _ h => h) ?_ hHeld ?_
    rotate_left
    focus (intro w hSw; go_simp; (try with_reducible rfl); done)
    go_frame
    refine tky 2 (some 162) (v := ?_) rfl (by kernel_rfl) (by kernel_rfl) (by kernel_rfl) (fun _ _ _ h => h) ?_ hHeld ?_
    rotate_left
    focus (intro w hSw; go_simp; (try with_reducible rfl); done)
    go_frame
    refine tky 3 (some 163) (v := ?_) rfl (by kernel_rfl) (by kernel_rfl) (by kernel_rfl) (fun _ _ _ h => h) ?_ hHeld ?_
    rotate_left
    focus (intro w hSw; go_simp; (try with_reducible rfl); done)
    go_frame
    refine wpAnyH_ready (rs := [4, 5]) (by kernel_rfl) (by simp) ?_
    refine acons 4 rfl (fun K hK => ?_) ?_
    go_simp
    refine hK.out _ _ trivial (fun _ => ?_)
    clear hK K
    (try go_frame)
    refine rcons 5 rfl (by kernel_rfl) (fun K hK => ?_)
    go_simp
    refine hK.out _ _ trivial (fun _ => ?_)
    clear hK K
    (try go_frame)
    refine rcons 6 rfl (by kernel_rfl) (fun K hK => ?_)
    go_simp
    refine hK.out _ _ trivial (fun _ => ?_)
    clear hK K
    (try go_frame)
    rotate_left
    refine acons 5 rfl (fun K hK => ?_) ?_
    go_simp
    refine hK.out _ _ trivial (fun _ => ?_)
    clear hK K
    (try go_frame)
    refine wpAnyH_ready (rs := [4, 6]) (by kernel_rfl) (by simp) ?_
    refine acons 4 rfl (fun K hK => ?_) ?_
    go_simp
    refine hK.out _ _ trivial (fun _ => ?_)
    clear hK K
    (try go_frame)
    refine rcons 6 rfl (by kernel_rfl) (fun K hK => ?_)
    go_simp
    refine hK.out _ _ trivial (fun _ => ?_)
    clear hK K
    (try go_frame)
    rotate_left
    refine acons 6 rfl (fun K hK => ?_) ?_
    go_simp
    refine hK.out _ _ trivial (fun _ => ?_)
    clear hK K
    (try go_frame)
    refine rcons 4 rfl (by kernel_rfl) (fun K hK => ?_)
    go_simp
    refine hK.out _ _ trivial (fun _ => ?_)
    clear hK K
    (try go_frame)
    rotate_left
    exact AllReadyH.nil
    exact AllReadyH.nil
    all_goals
      refine rcons 7 rfl (by kernel_rfl) (fun K hK => ?_)
      rw [if_pos]
      rotate_left
      focus kernel_rfl
      refine wp_pushL _ _ rfl (p + 1) (.slice av nv cv) L rfl (by exact ((HY5.out.drewN 1).alloc _).own) y5.heap.size 1 ⟨0, name.data.toList, [], 0, 0⟩ rfl (by rw [HCEL.out]; exact heap_alloc_last y5.drew _) (by omega) (by show _ ≤ Array.size _; simp; omega) ?_
      intro v' y6 hown' hgrow hat
      obtain ⟨g6, cap6, hvg, -⟩ := hown'.form L.length (by simp)
      generalize (L ++ [(⟨0, name.data.toList, [], 0, 0⟩ : Cel)]).length = n6 at hvg
      subst hvg
      obtain ⟨hst6, hy6⟩ := LV.grown ((HY5.out.drewN 1).alloc _) hown' hgrow hat rfl
      have HY6 := Lib.hid hy6
      obtain ⟨_, _, _, _, g4⟩ := hst6.cells
      have f6 := hst6.frozen 4
      clear hown' hgrow hat hst6 hy6
      (try dsimp only)
      refine hK.out _ _ trivial (fun _ => ?_)
      clear hK K
      (try go_frame)
      refine tky 8 (some 168) (v := ?_) rfl (by kernel_rfl) (by kernel_rfl) (by kernel_rfl) (fun _ _ _ h => h) ?_ hHeld ?_
      rotate_left
      focus (intro w hSw; go_simp; (try with_reducible rfl); done)
      go_frame
      refine tky 9 (some 169) (v := ?_) rfl (by kernel_rfl) (by kernel_rfl) (by kernel_rfl) (fun _ _ _ h => h) ?_ hHeld ?_
      rotate_left
      focus (intro w hSw; go_simp; (try with_reducible rfl); done)
      go_frame
      refine rcons 10 rfl (by kernel_rfl) (fun K hK => ?_)
      go_simp
      refine hK.out _ _ trivial (fun _ => ?_)
      clear hK K
      (try go_frame)
      refine wpAnyH_done (by kernel_rfl) ?_ _
      go_wp2_with fail
      go_end0
      exact ⟨rfl, by simp; omega, _, HY6.out⟩
end Go.Proofs.YtgaknbnhmoddcaaGreatDoor
namespace Go.Proofs.YtgaknbnhmoddcaaGreatDoor
open Go.RowKit Go.Lib
set_option maxRecDepth 100000 in
set_option maxHeartbeats 4000000 in
theorem l_value_true {p tb off cap : Nat} {T : List Tok} {fx : Bool} {k : Nat} {op : Int} (v : Value) (L : List Cel) (name : ByteArray) (W : World) (h : LS p tb off cap T fx k op v W) (hown : OwnC (p + 1) v L W) (hL : L.length ≤ 2048) (hk : k ≤ 100000) (hf : L.length ≠ 2048) (hkk : (lookP T k).kind = 1) (hx : (lookP T k).text = [116, 114, 117, 101]) :
    Calls Tryz.prog 91 #[.pointer (some ⟨p, 0, none⟩), .string name] W (LVE p tb off cap T fx W v op (.ok (k + 1, L ++ [⟨1, name.data.toList, [], 1, 0⟩]))) := by
  have HV0 : Hid (LV p tb off cap T fx W v v L k op W) := Lib.hid ⟨h, hown, VK.refl _ _ _, fun k hk => Or.inl hk⟩
  have HLK := Lib.hid (fun (W : World) (hW : LS p tb off cap T fx k op v W) => l_look W hW)
  have HIS := Lib.hid (fun (s : ByteArray) (W : World) (hW : LS p tb off cap T fx k op v W) => l_is s W hW)
  have HNO := Lib.hid (fun (e : Int) (W : World) (hW : LS p tb off cap T fx k op v W) => l_no e W hW)
  have hw1 : IntKind.i64.wrap ((k : Int) + 1) = (k : Int) + 1 := IntWalk.i64_in _ (by omega)
  have hvl : ∃ a n c, v = .slice a n c ∧ n = L.length := by
    rcases HV0.out.own.2 with ⟨h1, h2⟩ | ⟨g, cap, cur, h1, _⟩
    · exact ⟨none, 0, 0, h1, h2.symm⟩
    · exact ⟨_, _, _, h1, rfl⟩
  obtain ⟨av, nv, cv, rfl, hnv⟩ := hvl
  have HNV := Lib.hid hnv
  have hnv8 : nv ≤ 2048 := by omega
  clear h hown
  have hL2 : nv ≤ 2047 := by omega
  have tf : ((nv : Int) == 2048) = false := by rw [beq_eq_false_iff_ne]; omega
  have hno := mrk_no (T := T) (k := k) (by rw [hkk]; decide)
  simp only [hno] at HIS
  obtain ⟨kd, hkd⟩ : ∃ kd : Int, ((lookP T k).kind.toNat : Int) = kd := ⟨_, rfl⟩
  obtain ⟨tb0, htb0⟩ : ∃ b : ByteArray, (⟨(lookP T k).text.toArray⟩ : ByteArray) = b := ⟨_, rfl⟩
  obtain ⟨ps, hps⟩ : ∃ ps : Int, (lookP T k).pos = ps := ⟨_, rfl⟩
  have HTX : Hid (tb0.data.toList = (lookP T k).text) := Lib.hid (by rw [← htb0])
  have HTB := Lib.hid htb0
  unfold tokW at HLK
  rw [hkd, htb0, hps] at HLK
  have hkd2 : kd = 1 := by rw [← hkd, hkk]; rfl
  subst hkd2
  clear hkd htb0 hps hkk hno hnv
  have t110 : (tb0.toList == [110, 117, 108, 108]) = false := by rw [ByteArray.toList_eq, HTX.out, hx]; decide
  have t116 : (tb0.toList == [116, 114, 117, 101]) = true := by rw [ByteArray.toList_eq, HTX.out, hx]; decide
  have t102 : (tb0.toList == [102, 97, 108, 115, 101]) = false := by rw [ByteArray.toList_eq, HTX.out, hx]; decide
  clear hx
  cases fx
  case' true =>
    go_enter Tryz.func91, Tryz.ntmps91
    go_wp2_with fail
    refine (HLK.out _ HV0.out.st).mono ?_; rintro x w1 ⟨rfl, hb⟩
    have HV1 := Lib.hid ((HV0.out.below hb).alloc (.cells #[.int .u8 1, .string tb0, .int .i64 ps] 72 (0, 0)))
    have HA1 : Hid ((w1.alloc (.cells #[.int .u8 1, .string tb0, .int .i64 ps] 72 (0, 0))).heap[w1.heap.size]? = some (.cells #[.int .u8 1, .string tb0, .int .i64 ps] 72 (0, 0))) := Lib.hid (heap_alloc_last _ _)
    obtain ⟨A, hA⟩ : ∃ A, w1.heap.size = A := ⟨_, rfl⟩
    rw [hA] at HA1
    have HAZ := Lib.hid hA
    clear hb
    go_wp2_with fail
    refine (HIS.out _ _ HV1.out.st).mono ?_; rintro x w2 ⟨rfl, hb⟩
    have HV2 := Lib.hid (HV1.out.below hb)
    have HA2 := Lib.hid ((hb.block A (heap_lt HA1.out)).trans HA1.out)
    clear hb
    go_wp2_with fail
    refine (HIS.out _ _ HV2.out.st).mono ?_; rintro x w4 ⟨rfl, hb⟩
    have HV4 := Lib.hid (HV2.out.below hb)
    have HA4 := Lib.hid ((hb.block A (heap_lt HA2.out)).trans HA2.out)
    clear hb
  case' false =>
    go_enter Tryz.func91, Tryz.ntmps91
    go_wp2_with fail
    refine (HLK.out _ HV0.out.st).mono ?_; rintro x w1 ⟨rfl, hb⟩
    have HV1 := Lib.hid ((HV0.out.below hb).alloc (.cells #[.int .u8 1, .string tb0, .int .i64 ps] 72 (0, 0)))
    have HA1 : Hid ((w1.alloc (.cells #[.int .u8 1, .string tb0, .int .i64 ps] 72 (0, 0))).heap[w1.heap.size]? = some (.cells #[.int .u8 1, .string tb0, .int .i64 ps] 72 (0, 0))) := Lib.hid (heap_alloc_last _ _)
    obtain ⟨A, hA⟩ : ∃ A, w1.heap.size = A := ⟨_, rfl⟩
    rw [hA] at HA1
    have HAZ := Lib.hid hA
    clear hb
    go_wp2_with fail
    refine (HIS.out _ _ HV1.out.st).mono ?_; rintro x w2 ⟨rfl, hb⟩
    have HV2 := Lib.hid (HV1.out.below hb)
    have HA2 := Lib.hid ((hb.block A (heap_lt HA1.out)).trans HA1.out)
    clear hb
    go_wp2_with fail
    refine (HIS.out _ _ HV2.out.st).mono ?_; rintro x w3 ⟨rfl, hb⟩
    have HV3 := Lib.hid (HV2.out.below hb)
    have HA3 := Lib.hid ((hb.block A (heap_lt HA2.out)).trans HA2.out)
    clear hb
    obtain ⟨c0, c1, c2, c3, c4⟩ := HV3.out.st.cells
    go_wp2_with fail
    refine (HIS.out _ _ HV3.out.st).mono ?_; rintro x w4 ⟨rfl, hb⟩
    have HV4 := Lib.hid (HV3.out.below hb)
    have HA4 := Lib.hid ((hb.block A (heap_lt HA3.out)).trans HA3.out)
    clear hb
    clear c0 c1 c2 c3 c4
  all_goals
    obtain ⟨c0, c1, c2, c3, c4⟩ := HV4.out.st.cells
    obtain ⟨a0, a1, a2⟩ := tcells HA4.out
    have hA4 : A < w4.heap.size := heap_lt HA4.out
    have hp4 : p < w4.heap.size := HV4.out.st.lt
    have f1 := HV4.out.st.frozen 1
    go_wp2_with fail
    obtain ⟨C, hC⟩ : ∃ C, w4.heap.size = C := ⟨_, rfl⟩
    obtain ⟨y5, hy5⟩ : ∃ y5, (w4.setCell ⟨p, 1, none⟩ (.int .i64 ((k : Int) + 1))).alloc (.cells #[.int .u8 1, .string name, .string ⟨#[]⟩, .int .i64 1, .int .i64 0] 63 (0, 0)) = y5 := ⟨_, rfl⟩
    have HY5 := Lib.hid ((HV4.out.go (k + 1) (by omega)).alloc (.cells #[.int .u8 1, .string name, .string ⟨#[]⟩, .int .i64 1, .int .i64 0] 63 (0, 0)))
    have HC5 : Hid (y5.heap[C]? = some (.cells #[.int .u8 1, .string name, .string ⟨#[]⟩, .int .i64 1, .int .i64 0] 63 (0, 0))) := Lib.hid (by
      have := heap_alloc_last (w4.setCell ⟨p, 1, none⟩ (.int .i64 ((k : Int) + 1))) (.cells #[.int .u8 1, .string name, .string ⟨#[]⟩, .int .i64 1, .int .i64 0] 63 (0, 0))
      simp only [World.size_setCell] at this
      rw [← hy5, ← hC]; exact this)
    rw [show (w4.setCell ⟨p, 1, none⟩ (.int .i64 ((k + 1 : Nat) : Int))).alloc (.cells #[.int .u8 1, .string name, .string ⟨#[]⟩, .int .i64 1, .int .i64 0] 63 (0, 0)) = y5 from hy5] at HY5
    rw [hC, hy5]
    clear hy5 c0 c1 c2 c3 c4 a0 a1 a2 hA4 hp4 hC f1
    have hlt5 := HY5.out.st.lt
    have hC5 := heap_lt HC5.out
    obtain ⟨_, _, _, _, c4⟩ := HY5.out.st.cells
    have e4 : y5.drew.cell? ⟨p, 4, none⟩ = some (.slice av nv cv) := c4
    have e4' : ∀ o, (y5.drew.alloc o).cell? ⟨p, 4, none⟩ = some (.slice av nv cv) := fun o => by
      rw [World.cell?_alloc_lt _ _ _ (by exact hlt5)]; exact c4
    obtain ⟨q0, q1, q2, q3, q4⟩ := ccells (W := y5.drew) HC5.out
    have HCEL : Hid (celCells ⟨1, name.data.toList, [], 1, 0⟩ = #[.int .u8 1, .string name, .string ⟨#[]⟩, .int .i64 1, .int .i64 0]) := Lib.hid (by rfl)
    refine wp_region_held_drew (S := fun _ => True) (by kernel_rfl) trivial (fun hHeld => ?_)
    refine tky 0 (some 160) (v := ?_) rfl (by kernel_rfl) (by kernel_rfl) (by kernel_rfl) (fun _ _ _ h => h) ?_ hHeld ?_
    rotate_left
    focus (intro w hSw; go_simp; (try with_reducible rfl); done)
    go_frame
    refine tky 1 (some 161) (v := ?_) rfl (by kernel_rfl) (by kernel_rfl) (by kernel_rfl) (fun _ _ _ h => h) ?_ hHeld ?_
    rotate_left
    focus (intro w hSw; go_simp; (try with_reducible rfl); done)
    go_frame
    refine tky 2 (some 162) (v := ?_) rfl (by kernel_rfl) (by kernel_rfl) (by kernel_rfl) (fun _ _ _ h => h) ?_ hHeld ?_
    rotate_left
    focus (intro w hSw; go_simp; (try with_reducible rfl); done)
    go_frame
    refine tky 3 (some 163) (v := ?_) rfl (by kernel_rfl) (by kernel_rfl) (by kernel_rfl) (fun _ _ _ h => h) ?_ hHeld ?_
    rotate_left
    focus (intro w hSw; go_simp; (try with_reducible rfl); done)
    go_frame
    refine wpAnyH_ready (rs := [4, 5]) (by kernel_rfl) (by simp) ?_
    refine acons 4 rfl (fun K hK => ?_) ?_
    go_simp
    refine hK.out _ _ trivial (fun _ => ?_)
    clear hK K
    (try go_frame)
    refine rcons 5 rfl (by kernel_rfl) (fun K hK => ?_)
    go_simp
    refine hK.out _ _ trivial (fun _ => ?_)
    clear hK K
    (try go_frame)
    refine rcons 6 rfl (by kernel_rfl) (fun K hK => ?_)
    go_simp
    refine hK.out _ _ trivial (fun _ => ?_)
    clear hK K
    (try go_frame)
    rotate_left
    refine acons 5 rfl (fun K hK => ?_) ?_
    go_simp
    refine hK.out _ _ trivial (fun _ => ?_)
    clear hK K
    (try go_frame)
    refine wpAnyH_ready (rs := [4, 6]) (by kernel_rfl) (by simp) ?_
    refine acons 4 rfl (fun K hK => ?_) ?_
    go_simp
    refine hK.out _ _ trivial (fun _ => ?_)
    clear hK K
    (try go_frame)
    refine rcons 6 rfl (by kernel_rfl) (fun K hK => ?_)
    go_simp
    refine hK.out _ _ trivial (fun _ => ?_)
    clear hK K
    (try go_frame)
    rotate_left
    refine acons 6 rfl (fun K hK => ?_) ?_
    go_simp
    refine hK.out _ _ trivial (fun _ => ?_)
    clear hK K
    (try go_frame)
    refine rcons 4 rfl (by kernel_rfl) (fun K hK => ?_)
    go_simp
    refine hK.out _ _ trivial (fun _ => ?_)
    clear hK K
    (try go_frame)
    rotate_left
    exact AllReadyH.nil
    exact AllReadyH.nil
    all_goals
      refine rcons 7 rfl (by kernel_rfl) (fun K hK => ?_)
      rw [if_pos]
      rotate_left
      focus kernel_rfl
      refine wp_pushL _ _ rfl (p + 1) (.slice av nv cv) L rfl (by exact ((HY5.out.drewN 1).alloc _).own) y5.heap.size 1 ⟨1, name.data.toList, [], 1, 0⟩ rfl (by rw [HCEL.out]; exact heap_alloc_last y5.drew _) (by omega) (by show _ ≤ Array.size _; simp; omega) ?_
      intro v' y6 hown' hgrow hat
      obtain ⟨g6, cap6, hvg, -⟩ := hown'.form L.length (by simp)
      generalize (L ++ [(⟨1, name.data.toList, [], 1, 0⟩ : Cel)]).length = n6 at hvg
      subst hvg
      obtain ⟨hst6, hy6⟩ := LV.grown ((HY5.out.drewN 1).alloc _) hown' hgrow hat rfl
      have HY6 := Lib.hid hy6
      obtain ⟨_, _, _, _, g4⟩ := hst6.cells
      have f6 := hst6.frozen 4
      clear hown' hgrow hat hst6 hy6
      (try dsimp only)
      refine hK.out _ _ trivial (fun _ => ?_)
      clear hK K
      (try go_frame)
      refine tky 8 (some 168) (v := ?_) rfl (by kernel_rfl) (by kernel_rfl) (by kernel_rfl) (fun _ _ _ h => h) ?_ hHeld ?_
      rotate_left
      focus (intro w hSw; go_simp; (try with_reducible rfl); done)
      go_frame
      refine tky 9 (some 169) (v := ?_) rfl (by kernel_rfl) (by kernel_rfl) (by kernel_rfl) (fun _ _ _ h => h) ?_ hHeld ?_
      rotate_left
      focus (intro w hSw; go_simp; (try with_reducible rfl); done)
      go_frame
      refine rcons 10 rfl (by kernel_rfl) (fun K hK => ?_)
      go_simp
      refine hK.out _ _ trivial (fun _ => ?_)
      clear hK K
      (try go_frame)
      refine wpAnyH_done (by kernel_rfl) ?_ _
      go_wp2_with fail
      go_end0
      exact ⟨rfl, by simp; omega, _, HY6.out⟩
end Go.Proofs.YtgaknbnhmoddcaaGreatDoor
namespace Go.Proofs.YtgaknbnhmoddcaaGreatDoor
open Go.RowKit Go.Lib
set_option maxRecDepth 100000 in
set_option maxHeartbeats 4000000 in
theorem l_value_false {p tb off cap : Nat} {T : List Tok} {fx : Bool} {k : Nat} {op : Int} (v : Value) (L : List Cel) (name : ByteArray) (W : World) (h : LS p tb off cap T fx k op v W) (hown : OwnC (p + 1) v L W) (hL : L.length ≤ 2048) (hk : k ≤ 100000) (hf : L.length ≠ 2048) (hkk : (lookP T k).kind = 1) (hx : (lookP T k).text = [102, 97, 108, 115, 101]) :
    Calls Tryz.prog 91 #[.pointer (some ⟨p, 0, none⟩), .string name] W (LVE p tb off cap T fx W v op (.ok (k + 1, L ++ [⟨1, name.data.toList, [], 0, 0⟩]))) := by
  have HV0 : Hid (LV p tb off cap T fx W v v L k op W) := Lib.hid ⟨h, hown, VK.refl _ _ _, fun k hk => Or.inl hk⟩
  have HLK := Lib.hid (fun (W : World) (hW : LS p tb off cap T fx k op v W) => l_look W hW)
  have HIS := Lib.hid (fun (s : ByteArray) (W : World) (hW : LS p tb off cap T fx k op v W) => l_is s W hW)
  have HNO := Lib.hid (fun (e : Int) (W : World) (hW : LS p tb off cap T fx k op v W) => l_no e W hW)
  have hw1 : IntKind.i64.wrap ((k : Int) + 1) = (k : Int) + 1 := IntWalk.i64_in _ (by omega)
  have hvl : ∃ a n c, v = .slice a n c ∧ n = L.length := by
    rcases HV0.out.own.2 with ⟨h1, h2⟩ | ⟨g, cap, cur, h1, _⟩
    · exact ⟨none, 0, 0, h1, h2.symm⟩
    · exact ⟨_, _, _, h1, rfl⟩
  obtain ⟨av, nv, cv, rfl, hnv⟩ := hvl
  have HNV := Lib.hid hnv
  have hnv8 : nv ≤ 2048 := by omega
  clear h hown
  have hL2 : nv ≤ 2047 := by omega
  have tf : ((nv : Int) == 2048) = false := by rw [beq_eq_false_iff_ne]; omega
  have hno := mrk_no (T := T) (k := k) (by rw [hkk]; decide)
  simp only [hno] at HIS
  obtain ⟨kd, hkd⟩ : ∃ kd : Int, ((lookP T k).kind.toNat : Int) = kd := ⟨_, rfl⟩
  obtain ⟨tb0, htb0⟩ : ∃ b : ByteArray, (⟨(lookP T k).text.toArray⟩ : ByteArray) = b := ⟨_, rfl⟩
  obtain ⟨ps, hps⟩ : ∃ ps : Int, (lookP T k).pos = ps := ⟨_, rfl⟩
  have HTX : Hid (tb0.data.toList = (lookP T k).text) := Lib.hid (by rw [← htb0])
  have HTB := Lib.hid htb0
  unfold tokW at HLK
  rw [hkd, htb0, hps] at HLK
  have hkd2 : kd = 1 := by rw [← hkd, hkk]; rfl
  subst hkd2
  clear hkd htb0 hps hkk hno hnv
  have t110 : (tb0.toList == [110, 117, 108, 108]) = false := by rw [ByteArray.toList_eq, HTX.out, hx]; decide
  have t116 : (tb0.toList == [116, 114, 117, 101]) = false := by rw [ByteArray.toList_eq, HTX.out, hx]; decide
  have t102 : (tb0.toList == [102, 97, 108, 115, 101]) = true := by rw [ByteArray.toList_eq, HTX.out, hx]; decide
  clear hx
  cases fx
  case' true =>
    go_enter Tryz.func91, Tryz.ntmps91
    go_wp2_with fail
    refine (HLK.out _ HV0.out.st).mono ?_; rintro x w1 ⟨rfl, hb⟩
    have HV1 := Lib.hid ((HV0.out.below hb).alloc (.cells #[.int .u8 1, .string tb0, .int .i64 ps] 72 (0, 0)))
    have HA1 : Hid ((w1.alloc (.cells #[.int .u8 1, .string tb0, .int .i64 ps] 72 (0, 0))).heap[w1.heap.size]? = some (.cells #[.int .u8 1, .string tb0, .int .i64 ps] 72 (0, 0))) := Lib.hid (heap_alloc_last _ _)
    obtain ⟨A, hA⟩ : ∃ A, w1.heap.size = A := ⟨_, rfl⟩
    rw [hA] at HA1
    have HAZ := Lib.hid hA
    clear hb
    go_wp2_with fail
    refine (HIS.out _ _ HV1.out.st).mono ?_; rintro x w2 ⟨rfl, hb⟩
    have HV2 := Lib.hid (HV1.out.below hb)
    have HA2 := Lib.hid ((hb.block A (heap_lt HA1.out)).trans HA1.out)
    clear hb
    go_wp2_with fail
    refine (HIS.out _ _ HV2.out.st).mono ?_; rintro x w4 ⟨rfl, hb⟩
    have HV4 := Lib.hid (HV2.out.below hb)
    have HA4 := Lib.hid ((hb.block A (heap_lt HA2.out)).trans HA2.out)
    clear hb
  case' false =>
    go_enter Tryz.func91, Tryz.ntmps91
    go_wp2_with fail
    refine (HLK.out _ HV0.out.st).mono ?_; rintro x w1 ⟨rfl, hb⟩
    have HV1 := Lib.hid ((HV0.out.below hb).alloc (.cells #[.int .u8 1, .string tb0, .int .i64 ps] 72 (0, 0)))
    have HA1 : Hid ((w1.alloc (.cells #[.int .u8 1, .string tb0, .int .i64 ps] 72 (0, 0))).heap[w1.heap.size]? = some (.cells #[.int .u8 1, .string tb0, .int .i64 ps] 72 (0, 0))) := Lib.hid (heap_alloc_last _ _)
    obtain ⟨A, hA⟩ : ∃ A, w1.heap.size = A := ⟨_, rfl⟩
    rw [hA] at HA1
    have HAZ := Lib.hid hA
    clear hb
    go_wp2_with fail
    refine (HIS.out _ _ HV1.out.st).mono ?_; rintro x w2 ⟨rfl, hb⟩
    have HV2 := Lib.hid (HV1.out.below hb)
    have HA2 := Lib.hid ((hb.block A (heap_lt HA1.out)).trans HA1.out)
    clear hb
    go_wp2_with fail
    refine (HIS.out _ _ HV2.out.st).mono ?_; rintro x w3 ⟨rfl, hb⟩
    have HV3 := Lib.hid (HV2.out.below hb)
    have HA3 := Lib.hid ((hb.block A (heap_lt HA2.out)).trans HA2.out)
    clear hb
    obtain ⟨c0, c1, c2, c3, c4⟩ := HV3.out.st.cells
    go_wp2_with fail
    refine (HIS.out _ _ HV3.out.st).mono ?_; rintro x w4 ⟨rfl, hb⟩
    have HV4 := Lib.hid (HV3.out.below hb)
    have HA4 := Lib.hid ((hb.block A (heap_lt HA3.out)).trans HA3.out)
    clear hb
    clear c0 c1 c2 c3 c4
  all_goals
    obtain ⟨c0, c1, c2, c3, c4⟩ := HV4.out.st.cells
    obtain ⟨a0, a1, a2⟩ := tcells HA4.out
    have hA4 : A < w4.heap.size := heap_lt HA4.out
    have hp4 : p < w4.heap.size := HV4.out.st.lt
    have f1 := HV4.out.st.frozen 1
    go_wp2_with fail
    obtain ⟨C, hC⟩ : ∃ C, w4.heap.size = C := ⟨_, rfl⟩
    obtain ⟨y5, hy5⟩ : ∃ y5, (w4.setCell ⟨p, 1, none⟩ (.int .i64 ((k : Int) + 1))).alloc (.cells #[.int .u8 1, .string name, .string ⟨#[]⟩, .int .i64 0, .int .i64 0] 63 (0, 0)) = y5 := ⟨_, rfl⟩
    have HY5 := Lib.hid ((HV4.out.go (k + 1) (by omega)).alloc (.cells #[.int .u8 1, .string name, .string ⟨#[]⟩, .int .i64 0, .int .i64 0] 63 (0, 0)))
    have HC5 : Hid (y5.heap[C]? = some (.cells #[.int .u8 1, .string name, .string ⟨#[]⟩, .int .i64 0, .int .i64 0] 63 (0, 0))) := Lib.hid (by
      have := heap_alloc_last (w4.setCell ⟨p, 1, none⟩ (.int .i64 ((k : Int) + 1))) (.cells #[.int .u8 1, .string name, .string ⟨#[]⟩, .int .i64 0, .int .i64 0] 63 (0, 0))
      simp only [World.size_setCell] at this
      rw [← hy5, ← hC]; exact this)
    rw [show (w4.setCell ⟨p, 1, none⟩ (.int .i64 ((k + 1 : Nat) : Int))).alloc (.cells #[.int .u8 1, .string name, .string ⟨#[]⟩, .int .i64 0, .int .i64 0] 63 (0, 0)) = y5 from hy5] at HY5
    rw [hC, hy5]
    clear hy5 c0 c1 c2 c3 c4 a0 a1 a2 hA4 hp4 hC f1
    have hlt5 := HY5.out.st.lt
    have hC5 := heap_lt HC5.out
    obtain ⟨_, _, _, _, c4⟩ := HY5.out.st.cells
    have e4 : y5.drew.cell? ⟨p, 4, none⟩ = some (.slice av nv cv) := c4
    have e4' : ∀ o, (y5.drew.alloc o).cell? ⟨p, 4, none⟩ = some (.slice av nv cv) := fun o => by
      rw [World.cell?_alloc_lt _ _ _ (by exact hlt5)]; exact c4
    obtain ⟨q0, q1, q2, q3, q4⟩ := ccells (W := y5.drew) HC5.out
    have HCEL : Hid (celCells ⟨1, name.data.toList, [], 0, 0⟩ = #[.int .u8 1, .string name, .string ⟨#[]⟩, .int .i64 0, .int .i64 0]) := Lib.hid (by rfl)
    refine wp_region_held_drew (S := fun _ => True) (by kernel_rfl) trivial (fun hHeld => ?_)
    refine tky 0 (some 160) (v := ?_) rfl (by kernel_rfl) (by kernel_rfl) (by kernel_rfl) (fun _ _ _ h => h) ?_ hHeld ?_
    rotate_left
    focus (intro w hSw; go_simp; (try with_reducible rfl); done)
    go_frame
    refine tky 1 (some 161) (v := ?_) rfl (by kernel_rfl) (by kernel_rfl) (by kernel_rfl) (fun _ _ _ h => h) ?_ hHeld ?_
    rotate_left
    focus (intro w hSw; go_simp; (try with_reducible rfl); done)
    go_frame
    refine tky 2 (some 162) (v := ?_) rfl (by kernel_rfl) (by kernel_rfl) (by kernel_rfl) (fun _ _ _ h => h) ?_ hHeld ?_
    rotate_left
    focus (intro w hSw; go_simp; (try with_reducible rfl); done)
    go_frame
    refine tky 3 (some 163) (v := ?_) rfl (by kernel_rfl) (by kernel_rfl) (by kernel_rfl) (fun _ _ _ h => h) ?_ hHeld ?_
    rotate_left
    focus (intro w hSw; go_simp; (try with_reducible rfl); done)
    go_frame
    refine wpAnyH_ready (rs := [4, 5]) (by kernel_rfl) (by simp) ?_
    refine acons 4 rfl (fun K hK => ?_) ?_
    go_simp
    refine hK.out _ _ trivial (fun _ => ?_)
    clear hK K
    (try go_frame)
    refine rcons 5 rfl (by kernel_rfl) (fun K hK => ?_)
    go_simp
    refine hK.out _ _ trivial (fun _ => ?_)
    clear hK K
    (try go_frame)
    refine rcons 6 rfl (by kernel_rfl) (fun K hK => ?_)
    go_simp
    refine hK.out _ _ trivial (fun _ => ?_)
    clear hK K
    (try go_frame)
    rotate_left
    refine acons 5 rfl (fun K hK => ?_) ?_
    go_simp
    refine hK.out _ _ trivial (fun _ => ?_)
    clear hK K
    (try go_frame)
    refine wpAnyH_ready (rs := [4, 6]) (by kernel_rfl) (by simp) ?_
    refine acons 4 rfl (fun K hK => ?_) ?_
    go_simp
    refine hK.out _ _ trivial (fun _ => ?_)
    clear hK K
    (try go_frame)
    refine rcons 6 rfl (by kernel_rfl) (fun K hK => ?_)
    go_simp
    refine hK.out _ _ trivial (fun _ => ?_)
    clear hK K
    (try go_frame)
    rotate_left
    refine acons 6 rfl (fun K hK => ?_) ?_
    go_simp
    refine hK.out _ _ trivial (fun _ => ?_)
    clear hK K
    (try go_frame)
    refine rcons 4 rfl (by kernel_rfl) (fun K hK => ?_)
    go_simp
    refine hK.out _ _ trivial (fun _ => ?_)
    clear hK K
    (try go_frame)
    rotate_left
    exact AllReadyH.nil
    exact AllReadyH.nil
    all_goals
      refine rcons 7 rfl (by kernel_rfl) (fun K hK => ?_)
      rw [if_pos]
      rotate_left
      focus kernel_rfl
      refine wp_pushL _ _ rfl (p + 1) (.slice av nv cv) L rfl (by exact ((HY5.out.drewN 1).alloc _).own) y5.heap.size 1 ⟨1, name.data.toList, [], 0, 0⟩ rfl (by rw [HCEL.out]; exact heap_alloc_last y5.drew _) (by omega) (by show _ ≤ Array.size _; simp; omega) ?_
      intro v' y6 hown' hgrow hat
      obtain ⟨g6, cap6, hvg, -⟩ := hown'.form L.length (by simp)
      generalize (L ++ [(⟨1, name.data.toList, [], 0, 0⟩ : Cel)]).length = n6 at hvg
      subst hvg
      obtain ⟨hst6, hy6⟩ := LV.grown ((HY5.out.drewN 1).alloc _) hown' hgrow hat rfl
      have HY6 := Lib.hid hy6
      obtain ⟨_, _, _, _, g4⟩ := hst6.cells
      have f6 := hst6.frozen 4
      clear hown' hgrow hat hst6 hy6
      (try dsimp only)
      refine hK.out _ _ trivial (fun _ => ?_)
      clear hK K
      (try go_frame)
      refine tky 8 (some 168) (v := ?_) rfl (by kernel_rfl) (by kernel_rfl) (by kernel_rfl) (fun _ _ _ h => h) ?_ hHeld ?_
      rotate_left
      focus (intro w hSw; go_simp; (try with_reducible rfl); done)
      go_frame
      refine tky 9 (some 169) (v := ?_) rfl (by kernel_rfl) (by kernel_rfl) (by kernel_rfl) (fun _ _ _ h => h) ?_ hHeld ?_
      rotate_left
      focus (intro w hSw; go_simp; (try with_reducible rfl); done)
      go_frame
      refine rcons 10 rfl (by kernel_rfl) (fun K hK => ?_)
      go_simp
      refine hK.out _ _ trivial (fun _ => ?_)
      clear hK K
      (try go_frame)
      refine wpAnyH_done (by kernel_rfl) ?_ _
      go_wp2_with fail
      go_end0
      exact ⟨rfl, by simp; omega, _, HY6.out⟩
end Go.Proofs.YtgaknbnhmoddcaaGreatDoor
