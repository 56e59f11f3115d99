/- Walks and plain laws of this proof, joined from smaller texts (1). -/
import Derived.WalkKit
import Derived.Lib.ParseIntBCases
import Derived.Lib.ItoaMem
import Derived.Lib.SlTrimSet
import Derived.WalkSpells
import Derived.Handy
import Derived.Lib.Hide
import Derived.Lib.IndexBytes
import Derived.Lib.ItoaLen
import Derived.Lib.ValidLaws
import Derived.Lib.UnsafeStr
import Derived.Lib.BufferRead
import Derived.Laws.IdiomStrings
import Derived.Laws.AppendOwn
import Derived.OwnWalk
import Derived.Laws.Rows
import Derived.Test.YtgaknbnhmoddcaaGreatDoorRows
import Derived.IntWalk
import Derived.LoopTactic
import Derived.Deep.LoopGhost
import Derived.Deep.QuietTactic
import Derived.BigQuiet
import Derived.Deep.RegionHeld3
import Derived.Outline
import Derived.Maps.AppendAt
import Derived.Laws.OwnMore
import Derived.Laws.AppendOwnNone
import Derived.Laws.EntriesVeiled
import Derived.Maps.RangeWalk
import Derived.Test.YtgaknbnhmoddcaaGreatDoorShelh
import Derived.Test.YtgaknbnhmoddcaaGreatDoorShelf
import Derived.Shelf.Strings.SlTrimAscii
import Derived.StillTailTactics
import Derived.Deep.Light
import Derived.Deep.RegionWith
import Derived.Deep.Draws
import Derived.Maps.OwnOps
import Derived.Maps.Views
import Derived.Maps.Keyed
import Derived.StringKeys
import Derived.Maps.OwnSet
import Derived.Laws.Cover3
import Derived.ArgAppend
import Derived.Lib.Bytealg
import Derived.Lib.Strings
import Derived.Laws.RangeString
import Derived.Laws.Tables
import Derived.Laws.CopyOwn
set_option linter.unusedSimpArgs false
set_option linter.unusedVariables false
namespace Go.Proofs.YtgaknbnhmoddcaaGreatDoor
open Go.RowKit

/-- A number of 64 bits. -/
def R (n : Int) : Prop := -9223372036854775808 ≤ n ∧ n ≤ 9223372036854775807
/-- A number that may be, or 0. -/
def val (n : Int) : Int := if -9223372036854775808 ≤ n ∧ n ≤ 9223372036854775807 then n else 0
/-- The error's number. -/
def err (n : Int) : Int := if -9223372036854775808 ≤ n ∧ n ≤ 9223372036854775807 then 0 else 20
def far (n : Int) : Int := if n < 0 then -n else n
end Go.Proofs.YtgaknbnhmoddcaaGreatDoor
namespace Go.Proofs.YtgaknbnhmoddcaaGreatDoor
open Go.RowKit Go.Lib

def isDig (c : UInt8) : Bool := decide (48 ≤ c.toNat ∧ c.toNat ≤ 57)
/-- Are they digits, one at least? -/
def digitsB (l : List UInt8) : Bool := l.all isDig && !l.isEmpty
/-- A digit's value. -/
def dv (c : UInt8) : Nat := c.toNat - 48
/-- The number of digits. -/
def numFrom (a : Nat) (l : List UInt8) : Nat := l.foldl (fun a c => a * 10 + dv c) a
def num (l : List UInt8) : Nat := numFrom 0 l
/-- Is there a sign? -/
def below (l : List UInt8) : Bool := match l with | c :: _ => c == 45 | [] => false
/-- What stands behind the sign. -/
def body (l : List UInt8) : List UInt8 := if below l then l.tail else l
/-- Digits without a nought ahead. -/
def okDigits (l : List UInt8) : Bool := digitsB l && !(l.head? == some 48 && decide (1 < l.length))
def signed (l : List UInt8) : Int := if below l then -(num (body l) : Int) else num (body l)
def rdV (l : List UInt8) : Int := if okDigits (body l) then val (signed l) else 0
def rdE (l : List UInt8) : Int := if okDigits (body l) then err (signed l) else 21
theorem all_reverse (p : UInt8 → Bool) (l : List UInt8) : l.reverse.all p = l.all p := by simp
end Go.Proofs.YtgaknbnhmoddcaaGreatDoor
namespace Go.Proofs.YtgaknbnhmoddcaaGreatDoor
open Go.RowKit
theorem itoa_small (n : Int) (h0 : 0 ≤ n) (h1 : n < 10) : Lib.itoa n = [UInt8.ofNat (48 + n.toNat)] := by
  obtain ⟨u, rfl⟩ := Int.eq_ofNat_of_zero_le h0
  rw [Lib.itoa_nonneg, Lib.decDigits_one (by omega)]; rfl
theorem itoa_minus (n : Int) (h : n < 0) : Lib.itoa n = 45 :: Lib.itoa (-n) := by
  obtain ⟨u, hu⟩ := Int.eq_ofNat_of_zero_le (show 0 ≤ -n by omega)
  rw [hu, Lib.itoa_nonneg, show n = -(u : Int) by omega, Lib.itoa_neg _ (by omega)]
theorem itoa_pos (n : Int) (h : 10 ≤ n) : Lib.itoa n = Lib.itoa (n / 10) ++ Lib.itoa (n % 10) := by
  obtain ⟨u, rfl⟩ := Int.eq_ofNat_of_zero_le (show 0 ≤ n by omega)
  rw [show (u : Int) / 10 = ((u / 10 : Nat) : Int) by omega, show (u : Int) % 10 = ((u % 10 : Nat) : Int) by omega, Lib.itoa_nonneg, Lib.itoa_nonneg, Lib.itoa_nonneg, Lib.decDigits, dif_neg (by omega), Lib.decDigits_one (Nat.mod_lt _ (by decide))]
theorem itoa_neg10 (n d : Int) (h : n ≤ -10) (hd : d = (-n) % 10) : Lib.itoa n = Lib.itoa (-((-n) / 10)) ++ Lib.itoa d := by
  rw [itoa_minus n (by omega), itoa_minus (-((-n) / 10)) (by omega), hd, Int.neg_neg, List.cons_append, ← itoa_pos (-n) (by omega)]
theorem tdiv10 (n : Int) (h : n < 0) : n.tdiv 10 = -((-n) / 10) := by
  rw [← Int.tdiv_eq_ediv_of_nonneg (by omega), Int.neg_tdiv, Int.neg_neg]
theorem tmod10 (n : Int) (h : n < 0) : n.tmod 10 = -((-n) % 10) := by
  rw [← Int.tmod_eq_emod_of_nonneg (by omega), Int.neg_tmod, Int.neg_neg]
theorem one_digit_fin : ∀ i : Fin 10, (⟨#[48, 49, 50, 51, 52, 53, 54, 55, 56, 57]⟩ : ByteArray).extract i.val (i.val + 1) = ⟨[UInt8.ofNat (48 + i.val)].toArray⟩ := by decide +kernel
theorem one_digit (n : Int) (h0 : 0 ≤ n) (h1 : n < 10) : (⟨#[48, 49, 50, 51, 52, 53, 54, 55, 56, 57]⟩ : ByteArray).extract n.toNat (n + 1).toNat = ⟨(Lib.itoa n).toArray⟩ := by
  rw [itoa_small n h0 h1, show (n + 1).toNat = n.toNat + 1 by omega]
  exact one_digit_fin ⟨n.toNat, by omega⟩
theorem retB {a c : ByteArray} (h : a = c) : Ending.returned (.string a) = .returned (.string c) := by rw [h]
theorem len_itoa {n : Int} (h : R n) : (Lib.itoa n).length ≤ 21 := Lib.itoa_length_le n h.1 h.2
theorem cat (a b : List UInt8) : (⟨a.toArray⟩ : ByteArray) ++ ⟨b.toArray⟩ = ⟨(a ++ b).toArray⟩ := by
  apply ByteArray.ext; simp
/-- So far: the number of the first digits, by its sign. -/
def part (b : Bool) (l : List UInt8) (k : Nat) : Int := if b then -(num (l.take k) : Int) else num (l.take k)
end Go.Proofs.YtgaknbnhmoddcaaGreatDoor
namespace Go.Proofs.YtgaknbnhmoddcaaGreatDoor
open Go.Lib
def isPt (n : Nat) : Bool := decide (n ≤ 1114111 ∧ (n < 55296 ∨ 57343 < n))
def encN (n : Nat) : List UInt8 :=
  if n < 128 then [UInt8.ofNat n] else if n < 2048 then [UInt8.ofNat (192 + n / 64), UInt8.ofNat (128 + n % 64)]
  else if n < 65536 then [UInt8.ofNat (224 + n / 4096), UInt8.ofNat (128 + n / 64 % 64), UInt8.ofNat (128 + n % 64)]
  else [UInt8.ofNat (240 + n / 262144), UInt8.ofNat (128 + n / 4096 % 64), UInt8.ofNat (128 + n / 64 % 64), UInt8.ofNat (128 + n % 64)]
/-- What the bytes of one code point would tell. -/
def numN : List UInt8 → Nat
  | [a] => a.toNat
  | [a, b] => 64 * (a.toNat % 32) + b.toNat % 64
  | [a, b, c] => 64 * (64 * (a.toNat % 16) + b.toNat % 64) + c.toNat % 64
  | [a, b, c, d] => 64 * (64 * (64 * (a.toNat % 8) + b.toNat % 64) + c.toNat % 64) + d.toNat % 64
  | _ => 0
def oneB (l : List UInt8) (k : Nat) : Bool := decide (k ≤ l.length) && (isPt (numN (l.take k)) && encN (numN (l.take k)) == l.take k)
theorem ofN (n : Nat) (h : n < 256) : (UInt8.ofNat n).toNat = n := by rw [UInt8.toNat_ofNat']; omega
theorem toN {x : UInt8} {n : Nat} (h : x.toNat = n) : UInt8.ofNat n = x := by rw [← h, UInt8.ofNat_toNat]
/-- The bytes of a code point are decoded as it. -/
theorem decode_enc (n : Nat) (h : isPt n = true) (t : List UInt8) : decodeL (encN n ++ t) = (n, (encN n).length) := by
  simp only [isPt, decide_eq_true_eq] at h
  rw [decodeL_N]
  unfold encN
  by_cases h1 : n < 128
  · rw [if_pos h1]
    simp only [List.cons_append, List.nil_append, List.getD_cons_zero, List.length_cons, List.length_nil]
    rw [ofN n (by omega)]
    unfold decodeN
    rw [if_pos h1]
  · rw [if_neg h1]
    by_cases h2 : n < 2048
    · rw [if_pos h2]
      simp only [List.cons_append, List.nil_append, List.getD_cons_zero, List.getD_cons_succ, List.length_cons, List.length_nil]
      rw [ofN _ (by omega), ofN _ (by omega)]
      unfold decodeN
      rw [if_neg (by omega), if_pos (by omega), if_pos (by omega)]
      exact Prod.ext (by show _ = n; omega) rfl
    · rw [if_neg h2]
      by_cases h3 : n < 65536
      · rw [if_pos h3]
        simp only [List.cons_append, List.nil_append, List.getD_cons_zero, List.getD_cons_succ, List.length_cons, List.length_nil]
        rw [ofN _ (by omega), ofN _ (by omega), ofN _ (by omega)]
        unfold decodeN
        rw [if_neg (by omega), if_neg (by omega), if_pos (by omega), if_pos (by omega)]
        exact Prod.ext (by show _ = n; omega) rfl
      · rw [if_neg h3]
        simp only [List.cons_append, List.nil_append, List.getD_cons_zero, List.getD_cons_succ, List.length_cons, List.length_nil]
        rw [ofN _ (by omega), ofN _ (by omega), ofN _ (by omega), ofN _ (by omega)]
        unfold decodeN
        rw [if_neg (by omega), if_neg (by omega), if_neg (by omega), if_pos (by omega), if_pos (by omega)]
        exact Prod.ext (by show _ = n; omega) rfl
theorem decode_one (l : List UInt8) (k : Nat) (h : oneB l k = true) : decodeL l = (numN (l.take k), k) := by
  simp only [oneB, Bool.and_eq_true, decide_eq_true_eq, beq_iff_eq] at h
  obtain ⟨h1, h2, h3⟩ := h
  have e : l = encN (numN (l.take k)) ++ l.drop k := by rw [h3, List.take_append_drop]
  have := decode_enc (numN (l.take k)) h2 (l.drop k)
  rw [← e, h3] at this
  rw [this, List.length_take, Nat.min_eq_left h1]
/-- What is decoded well is one code point's bytes. -/
theorem one_decode (l : List UInt8) (hne : l ≠ []) (hv : ¬ ((decodeL l).1 = 65533 ∧ (decodeL l).2 = 1)) : oneB l (decodeL l).2 = true ∧ numN (l.take (decodeL l).2) = (decodeL l).1 ∧ 1 ≤ (decodeL l).2 ∧ (decodeL l).2 ≤ 4 := by
  have hl : 0 < l.length := List.length_pos_iff.2 hne
  rw [decodeL_N] at hv ⊢
  have k0 := (l.getD 0 0).toNat_lt
  have k1 := (l.getD 1 0).toNat_lt
  have k2 := (l.getD 2 0).toNat_lt
  have k3 := (l.getD 3 0).toNat_lt
  rcases decodeN_shape l.length (l.getD 0 0).toNat (l.getD 1 0).toNat (l.getD 2 0).toNat (l.getD 3 0).toNat with ⟨c, e⟩ | ⟨c1, c2, c3, cv, e⟩ | ⟨c1, c2, c3, c4, cv, cs, e⟩ | ⟨c1, c2, c3, c4, c5, cv, cw, e⟩ | e
  · rw [e]
    dsimp only
    have hn : numN (l.take 1) = (l.getD 0 0).toNat := by rw [takeA l hl]; rfl
    refine ⟨?_, hn, by omega, by omega⟩
    unfold oneB
    rw [hn, takeA l hl, decide_eq_true (by omega)]
    simp only [Bool.true_and, Bool.and_eq_true, beq_iff_eq]
    refine ⟨by simp only [isPt, decide_eq_true_eq]; omega, ?_⟩
    unfold encN
    rw [if_pos c, toN rfl]
  · rw [e]
    dsimp only
    have hn : numN (l.take 2) = (l.getD 0 0).toNat % 32 * 64 + (l.getD 1 0).toNat % 64 := by rw [takeB l c2]; simp only [numN]; omega
    refine ⟨?_, hn, by omega, by omega⟩
    unfold oneB
    rw [hn, takeB l c2, decide_eq_true (by omega)]
    simp only [Bool.true_and, Bool.and_eq_true, beq_iff_eq]
    refine ⟨by simp only [isPt, decide_eq_true_eq]; omega, ?_⟩
    unfold encN
    rw [if_neg (by omega), if_pos (by omega), toN (x := l.getD 0 0) (by omega), toN (x := l.getD 1 0) (by omega)]
  · rw [e]
    dsimp only
    have hn : numN (l.take 3) = (l.getD 0 0).toNat % 16 * 4096 + (l.getD 1 0).toNat % 64 * 64 + (l.getD 2 0).toNat % 64 := by rw [takeC l c2]; simp only [numN]; omega
    refine ⟨?_, hn, by omega, by omega⟩
    unfold oneB
    rw [hn, takeC l c2, decide_eq_true (by omega)]
    simp only [Bool.true_and, Bool.and_eq_true, beq_iff_eq]
    refine ⟨by simp only [isPt, decide_eq_true_eq]; omega, ?_⟩
    unfold encN
    rw [if_neg (by omega), if_neg (by omega), if_pos (by omega), toN (x := l.getD 0 0) (by omega), toN (x := l.getD 1 0) (by omega), toN (x := l.getD 2 0) (by omega)]
  · rw [e]
    dsimp only
    have hn : numN (l.take 4) = (l.getD 0 0).toNat % 8 * 262144 + (l.getD 1 0).toNat % 64 * 4096 + (l.getD 2 0).toNat % 64 * 64 + (l.getD 3 0).toNat % 64 := by rw [takeD l c2]; simp only [numN]; omega
    refine ⟨?_, hn, by omega, by omega⟩
    unfold oneB
    rw [hn, takeD l c2, decide_eq_true (by omega)]
    simp only [Bool.true_and, Bool.and_eq_true, beq_iff_eq]
    refine ⟨by simp only [isPt, decide_eq_true_eq]; omega, ?_⟩
    unfold encN
    rw [if_neg (by omega), if_neg (by omega), if_neg (by omega), toN (x := l.getD 0 0) (by omega), toN (x := l.getD 1 0) (by omega), toN (x := l.getD 2 0) (by omega), toN (x := l.getD 3 0) (by omega)]
  · rw [e] at hv
    exact absurd ⟨rfl, rfl⟩ hv
/-- Is the first code point well? -/
def wellB (l : List UInt8) : Bool := !decide ((decodeL l).1 = 65533 ∧ (decodeL l).2 = 1)
/-- The sizes are tried in order: the first that fits is the decoded one's. -/
theorem one_iff (l : List UInt8) (hne : l ≠ []) (k : Nat) (hk : 1 ≤ k) (hk4 : k ≤ 4) : oneB l k = (wellB l && decide (k = (decodeL l).2)) := by
  by_cases hv : (decodeL l).1 = 65533 ∧ (decodeL l).2 = 1
  · have hw : wellB l = false := by unfold wellB; rw [decide_eq_true hv]; rfl
    rw [hw, Bool.false_and]
    cases h : oneB l k with
    | false => rfl
    | true =>
      exfalso
      have e := decode_one l k h
      rw [e] at hv
      obtain ⟨hv1, hv2⟩ := hv
      simp only at hv1 hv2
      subst hv2
      simp only [oneB, Bool.and_eq_true, beq_iff_eq] at h
      have := congrArg List.length h.2.2
      rw [hv1] at this
      rw [List.length_take] at this
      have h3 : (encN 65533).length = 3 := by decide
      omega
  · have hw : wellB l = true := by unfold wellB; rw [decide_eq_false hv]; rfl
    obtain ⟨g1, g2, g3, g4⟩ := one_decode l hne hv
    rw [hw, Bool.true_and]
    by_cases e : k = (decodeL l).2
    · rw [decide_eq_true e, e]; exact g1
    · rw [decide_eq_false e]
      cases h : oneB l k with
      | false => rfl
      | true => exact absurd (congrArg Prod.snd (decode_one l k h)).symm e
/-- A text's code points: how the document reads it. -/
theorem valid_step (l : List UInt8) (hne : l ≠ []) : validD l = (wellB l && validD (l.drop (decodeL l).2)) := by
  rw [validD_step l hne]
  unfold wellB
  by_cases h : (decodeL l).1 = 65533 ∧ (decodeL l).2 = 1
  · rw [if_pos h, decide_eq_true h]; rfl
  · rw [if_neg h, decide_eq_false h]; rfl
/-- The code points of a text. -/
def ptsGo : Nat → List UInt8 → List Nat
  | 0, _ => []
  | n + 1, l => if l = [] then [] else (decodeL l).1 :: ptsGo n (l.drop (decodeL l).2)
def pts (l : List UInt8) : List Nat := ptsGo l.length l
theorem ptsGo_nil : ∀ n, ptsGo n [] = []
  | 0 => rfl
  | n + 1 => by simp [ptsGo]
theorem ptsGo_fuel : ∀ (n m : Nat) (l : List UInt8), l.length ≤ n → l.length ≤ m → ptsGo n l = ptsGo m l
  | 0, m, l, hn, _ => by
    have : l = [] := List.eq_nil_of_length_eq_zero (by omega)
    subst this
    rw [ptsGo_nil, ptsGo_nil]
  | n + 1, 0, l, _, hm => by
    have : l = [] := List.eq_nil_of_length_eq_zero (by omega)
    subst this
    rw [ptsGo_nil, ptsGo_nil]
  | n + 1, m + 1, l, hn, hm => by
    unfold ptsGo
    by_cases hne : l = []
    · simp [hne]
    · have hw := decodeL_width l
      have hl : 0 < l.length := List.length_pos_iff.2 hne
      rw [if_neg hne, if_neg hne, ptsGo_fuel n m (l.drop (decodeL l).2) (by rw [List.length_drop]; omega) (by rw [List.length_drop]; omega)]
theorem pts_nil : pts [] = [] := rfl
theorem pts_step (l : List UInt8) (hne : l ≠ []) : pts l = (decodeL l).1 :: pts (l.drop (decodeL l).2) := by
  have hl : 0 < l.length := List.length_pos_iff.2 hne
  have hw := decodeL_width l
  obtain ⟨n, hn⟩ : ∃ n, l.length = n + 1 := ⟨l.length - 1, by omega⟩
  unfold pts
  rw [hn]
  show (if l = [] then [] else _) = _
  rw [if_neg hne, ptsGo_fuel n (l.drop (decodeL l).2).length _ (by rw [List.length_drop]; omega) (Nat.le_refl _)]
end Go.Proofs.YtgaknbnhmoddcaaGreatDoor
namespace Go.Proofs.YtgaknbnhmoddcaaGreatDoor
open Go.Lib
def nameC (c : UInt8) : Bool := decide ((97 ≤ c.toNat ∧ c.toNat ≤ 122) ∨ (65 ≤ c.toNat ∧ c.toNat ≤ 90) ∨ c.toNat = 95 ∨ (48 ≤ c.toNat ∧ c.toNat ≤ 57))
/-- Is a text a name? -/
def nameB : List UInt8 → Bool
  | [] => false
  | c :: r => !isDig c && (c :: r).all nameC
def marksL : List UInt8 := [33, 36, 38, 40, 41, 58, 61, 64, 91, 93, 123, 124, 125]
def textB (l : List UInt8) : Bool := decide (l.length ≤ 16384) && validD l
/-- A token: its kind, its text, where it stood. -/
structure Tok where
  kind : UInt8
  text : List UInt8
  pos : Int
end Go.Proofs.YtgaknbnhmoddcaaGreatDoor
namespace Go.Proofs.YtgaknbnhmoddcaaGreatDoor
open Go.RowKit
/-- A slice of bytes of the call's own, from a block on, that reads as a list. -/
def Own (B : Nat) (v : Value) (l : List UInt8) (W : World) : Prop := W.ownsRow B 5 1 v l.length (Lib.byteCells l)
theorem Own.nil (B : Nat) (W : World) : Own B (.slice none 0 0) [] W := World.ownsRow_nil W B 5 1
theorem Own.below {B : Nat} {v : Value} {l : List UInt8} {w w' : World} (h : Own B v l w) (hb : Below w.heap.size w w') : Own B v l w' := by
  obtain ⟨h1, h2⟩ := h
  refine ⟨h1, ?_⟩
  rcases h2 with h2 | ⟨g, cap, cur, hv, hB, hg, hrest⟩
  · exact Or.inl h2
  · have hlt : g < w.heap.size := (Array.getElem?_eq_some_iff.1 hg).1
    exact Or.inr ⟨g, cap, cur, hv, hB, (hb.block g hlt).trans hg, hrest⟩
theorem Own.alloc {B : Nat} {v : Value} {l : List UInt8} {w : World} (h : Own B v l w) (o : Obj) : Own B v l (w.alloc o) := World.ownsRow.alloc h o
theorem Own.drew {B : Nat} {v : Value} {l : List UInt8} {w : World} (h : Own B v l w) : Own B v l w.drew := h
theorem Own.lt {B : Nat} {v : Value} {l : List UInt8} {w : World} (h : Own B v l w) : ∀ k, v.ownBlock = some k → B ≤ k := fun k hk => (World.ownsRow.lt h k hk).1
/-- A slice of bytes that was just laid. -/
theorem Own.fresh {l : List UInt8} {C : Array Value} {k : Nat} (hk : k = l.length) (hC : C.toList = Lib.byteCells l) (hl : l.length ≤ 1000000000) (W : World) : Own W.heap.size (.slice (some ⟨W.heap.size, 0, none⟩) k k) l (W.alloc (.cells C 5)) := by
  have hs : C.size = l.length := by
    have := congrArg List.length hC
    simpa [Lib.byteCells] using this
  refine ⟨by simp [Lib.byteCells], Or.inr ⟨W.heap.size, k, C, by rw [hk], Nat.le_refl _, heap_alloc_new W _, by omega, by unfold maxLen; omega, by omega, ?_⟩⟩
  rw [List.take_of_length_le (by simp; omega)]
  exact hC
theorem run_convert_own {B : Nat} {v : Value} {l : List UInt8} {w : World} (h : Own B v l w) : (convert 23 9 v).run Tryz.prog w = .ok (.string ⟨l.toArray⟩) w := by
  obtain ⟨h1, h2⟩ := h
  rcases h2 with ⟨rfl, h2⟩ | ⟨g, cap, cur, rfl, hB, hg, hn, hc, hcs, ht⟩
  · have : l = [] := List.eq_nil_of_length_eq_zero h2
    subst this
    exact Lib.run_convert_nil_bytes w 23 9 5 0 Tryz.underlying23 Tryz.underlying5 Tryz.underlying9
  · exact Go.run_convert_bytes_back w 23 9 5 ⟨g, 0, none⟩ cap l Tryz.underlying23 Tryz.underlying5 Tryz.underlying9 (Lib.bytes_of_row hg (by rw [Nat.mul_one] at ht; exact ht))
end Go.Proofs.YtgaknbnhmoddcaaGreatDoor
namespace Go.Proofs.YtgaknbnhmoddcaaGreatDoor
open Go.RowKit
theorem ret_n {k : IntKind} {a c : Int} (h : a = c) : Ending.returned (.int k a) = .returned (.int k c) := by rw [h]
theorem ret_b {a c : Bool} (h : a = c) : Ending.returned (.bool a) = .returned (.bool c) := by rw [h]
theorem drop_at (s : ByteArray) (k : Nat) (h : k < s.size) : s.data.toList.drop k = s[k] :: s.data.toList.drop (k + 1) := by
  rw [List.drop_eq_getElem_cons (by rw [Array.length_toList]; exact h)]; rfl
end Go.Proofs.YtgaknbnhmoddcaaGreatDoor
namespace Go.Proofs.YtgaknbnhmoddcaaGreatDoor
open Go.RowKit
set_option maxRecDepth 100000 in
theorem ris_any (n : Nat) (hn : n ≤ 100000000) (w : World) :
    Calls Tryz.prog 177 #[.int .i64 (n : Int)] w fun e w' => e = .returned (.bool (isPt n)) ∧ w = w' := by
  have hx : isPt n = decide (n ≤ 1114111 ∧ (n < 55296 ∨ 57343 < n)) := rfl
  generalize isPt n = r at *
  have HX := Lib.hid hx
  clear hx
  go_enter Tryz.func177, Tryz.ntmps177
  go_wp2
  all_goals
    go_ret
    refine ⟨ret_b ?_, rfl⟩
    have hx := HX.out
    rw [hx, Bool.eq_iff_iff]
    (try simp at *) <;> omega
set_option maxRecDepth 100000 in
set_option maxHeartbeats 1000000 in
theorem rnumber1 (s : ByteArray) (k : Nat) (h : k + 1 ≤ s.size) (hs : s.size ≤ 1000000) (w : World) :
    Calls Tryz.prog 176 #[.string s, .int .i64 (k : Int), .int .i64 1] w fun e w' => e = .returned (.int .i64 (numN ((s.data.toList.drop k).take 1) : Nat)) ∧ w = w' := by
  rw [drop_at s (k) (by omega)]
  have h0 : k < s.size := by omega
  have c0 : s[k].toNat < 256 := UInt8.toNat_lt _
  simp only [List.take_succ_cons, List.take_zero, numN]
  go_enter Tryz.func176, Tryz.ntmps176
  go_wp2
  refine wp_loop_rounds 1 ?_
  repeat any_goals (rw [rounds_succ]; go_wp2)
  go_ret
  refine ⟨ret_n ?_, rfl⟩
  omega
set_option maxRecDepth 100000 in
set_option maxHeartbeats 1000000 in
theorem rnumber2 (s : ByteArray) (k : Nat) (h : k + 2 ≤ s.size) (hs : s.size ≤ 1000000) (w : World) :
    Calls Tryz.prog 176 #[.string s, .int .i64 (k : Int), .int .i64 2] w fun e w' => e = .returned (.int .i64 (numN ((s.data.toList.drop k).take 2) : Nat)) ∧ w = w' := by
  rw [drop_at s (k) (by omega), drop_at s (k + 1) (by omega)]
  have h0 : k < s.size := by omega
  have c0 : s[k].toNat < 256 := UInt8.toNat_lt _
  have h1 : k + 1 < s.size := by omega
  have c1 : s[k + 1].toNat < 256 := UInt8.toNat_lt _
  simp only [List.take_succ_cons, List.take_zero, numN]
  go_enter Tryz.func176, Tryz.ntmps176
  go_wp2
  refine wp_loop_rounds 2 ?_
  repeat any_goals (rw [rounds_succ]; go_wp2)
  go_ret
  refine ⟨ret_n ?_, rfl⟩
  omega
set_option maxRecDepth 100000 in
set_option maxHeartbeats 1000000 in
theorem rnumber3 (s : ByteArray) (k : Nat) (h : k + 3 ≤ s.size) (hs : s.size ≤ 1000000) (w : World) :
    Calls Tryz.prog 176 #[.string s, .int .i64 (k : Int), .int .i64 3] w fun e w' => e = .returned (.int .i64 (numN ((s.data.toList.drop k).take 3) : Nat)) ∧ w = w' := by
  rw [drop_at s (k) (by omega), drop_at s (k + 1) (by omega), drop_at s (k + 2) (by omega)]
  have h0 : k < s.size := by omega
  have c0 : s[k].toNat < 256 := UInt8.toNat_lt _
  have h1 : k + 1 < s.size := by omega
  have c1 : s[k + 1].toNat < 256 := UInt8.toNat_lt _
  have h2 : k + 2 < s.size := by omega
  have c2 : s[k + 2].toNat < 256 := UInt8.toNat_lt _
  simp only [List.take_succ_cons, List.take_zero, numN]
  go_enter Tryz.func176, Tryz.ntmps176
  go_wp2
  refine wp_loop_rounds 3 ?_
  repeat any_goals (rw [rounds_succ]; go_wp2)
  go_ret
  refine ⟨ret_n ?_, rfl⟩
  omega
set_option maxRecDepth 100000 in
set_option maxHeartbeats 1000000 in
theorem rnumber4 (s : ByteArray) (k : Nat) (h : k + 4 ≤ s.size) (hs : s.size ≤ 1000000) (w : World) :
    Calls Tryz.prog 176 #[.string s, .int .i64 (k : Int), .int .i64 4] w fun e w' => e = .returned (.int .i64 (numN ((s.data.toList.drop k).take 4) : Nat)) ∧ w = w' := by
  rw [drop_at s (k) (by omega), drop_at s (k + 1) (by omega), drop_at s (k + 2) (by omega), drop_at s (k + 3) (by omega)]
  have h0 : k < s.size := by omega
  have c0 : s[k].toNat < 256 := UInt8.toNat_lt _
  have h1 : k + 1 < s.size := by omega
  have c1 : s[k + 1].toNat < 256 := UInt8.toNat_lt _
  have h2 : k + 2 < s.size := by omega
  have c2 : s[k + 2].toNat < 256 := UInt8.toNat_lt _
  have h3 : k + 3 < s.size := by omega
  have c3 : s[k + 3].toNat < 256 := UInt8.toNat_lt _
  simp only [List.take_succ_cons, List.take_zero, numN]
  go_enter Tryz.func176, Tryz.ntmps176
  go_wp2
  refine wp_loop_rounds 4 ?_
  repeat any_goals (rw [rounds_succ]; go_wp2)
  go_ret
  refine ⟨ret_n ?_, rfl⟩
  omega
set_option maxRecDepth 100000 in
set_option maxHeartbeats 1000000 in
theorem rbytes1 (n : Nat) (hn : n ≤ 1114111) (hb : n < 128) (w : World) :
    Calls Tryz.prog 178 #[.int .i64 (n : Int)] w fun e w' => ∃ v, e = .returned v ∧ Own w.heap.size v (encN n) w' ∧ Below w.heap.size w w' := by
  have e : encN n = [UInt8.ofNat n] := by unfold encN; rw [if_pos (by omega)]
  rw [e]
  clear e
  go_enter Tryz.func178, Tryz.ntmps178
  go_wp2
  refine bodyPost_ret (v := .slice (some ⟨w.heap.size, 0, none⟩) 1 1) (by simp [results, Tryz.results178, go_sem]) rfl ⟨_, rfl, Own.fresh rfl ?_ (by simp) w, (Below.refl _ _).alloc (Nat.le_refl _) _⟩
  simp only [Lib.byteCells, List.map_cons, List.map_nil]
  rw [ofN _ (by omega)]
set_option maxRecDepth 100000 in
set_option maxHeartbeats 1000000 in
theorem rbytes2 (n : Nat) (hn : n ≤ 1114111) (ha : ¬ n < 128) (hb : n < 2048) (w : World) :
    Calls Tryz.prog 178 #[.int .i64 (n : Int)] w fun e w' => ∃ v, e = .returned v ∧ Own w.heap.size v (encN n) w' ∧ Below w.heap.size w w' := by
  have e : encN n = [UInt8.ofNat (192 + n / 64), UInt8.ofNat (128 + n % 64)] := by unfold encN; rw [if_neg (by omega)]; rw [if_pos (by omega)]
  rw [e]
  clear e
  go_enter Tryz.func178, Tryz.ntmps178
  go_wp2
  refine bodyPost_ret (v := .slice (some ⟨w.heap.size, 0, none⟩) 2 2) (by simp [results, Tryz.results178, go_sem]) rfl ⟨_, rfl, Own.fresh rfl ?_ (by simp) w, (Below.refl _ _).alloc (Nat.le_refl _) _⟩
  simp only [Lib.byteCells, List.map_cons, List.map_nil]
  rw [ofN _ (by omega), ofN _ (by omega)]; simp
set_option maxRecDepth 100000 in
set_option maxHeartbeats 1000000 in
theorem rbytes3 (n : Nat) (hn : n ≤ 1114111) (ha0 : ¬ n < 128) (ha : ¬ n < 2048) (hb : n < 65536) (w : World) :
    Calls Tryz.prog 178 #[.int .i64 (n : Int)] w fun e w' => ∃ v, e = .returned v ∧ Own w.heap.size v (encN n) w' ∧ Below w.heap.size w w' := by
  have e : encN n = [UInt8.ofNat (224 + n / 4096), UInt8.ofNat (128 + n / 64 % 64), UInt8.ofNat (128 + n % 64)] := by unfold encN; rw [if_neg (by omega)]; rw [if_neg (by omega)]; rw [if_pos (by omega)]
  rw [e]
  clear e
  obtain ⟨a, ea⟩ : ∃ a, n / 4096 = a := ⟨_, rfl⟩
  obtain ⟨d, ed⟩ : ∃ d, n / 64 = d := ⟨_, rfl⟩
  obtain ⟨b, eb⟩ : ∃ b, d % 64 = b := ⟨_, rfl⟩
  obtain ⟨c, ec⟩ : ∃ c, n % 64 = c := ⟨_, rfl⟩
  have la : a < 16 := by omega
  have ld : d < 1024 := by omega
  have lb : b < 64 := by omega
  have lc : c < 64 := by omega
  have fa : (n : Int) / 4096 = a := by omega
  have fd : (n : Int) / 64 = d := by omega
  have fb : (d : Int) % 64 = b := by omega
  have fc : (n : Int) % 64 = c := by omega
  rw [ea, ed, eb, ec]
  have i1 : (128 : Int) ≤ n := by omega
  have i2 : (2048 : Int) ≤ n := by omega
  have i3 : (n : Int) < 65536 := by omega
  clear ea ed eb ec hn ha0 ha hb
  obtain ⟨m, hm⟩ : ∃ m : Int, (n : Int) = m := ⟨_, rfl⟩
  rw [hm] at fa fd fc i1 i2 i3
  rw [hm]
  clear hm
  go_enter Tryz.func178, Tryz.ntmps178
  go_wp2
  refine bodyPost_ret (v := .slice (some ⟨w.heap.size, 0, none⟩) 3 3) (by simp [results, Tryz.results178, go_sem]) rfl ⟨_, rfl, Own.fresh rfl ?_ (by simp) w, (Below.refl _ _).alloc (Nat.le_refl _) _⟩
  simp only [Lib.byteCells, List.map_cons, List.map_nil]
  rw [ofN _ (by omega), ofN _ (by omega), ofN _ (by omega)]; simp
set_option maxRecDepth 100000 in
set_option maxHeartbeats 1000000 in
theorem rbytes4 (n : Nat) (hn : n ≤ 1114111) (ha0 : ¬ n < 128) (ha1 : ¬ n < 2048) (ha : ¬ n < 65536) (w : World) :
    Calls Tryz.prog 178 #[.int .i64 (n : Int)] w fun e w' => ∃ v, e = .returned v ∧ Own w.heap.size v (encN n) w' ∧ Below w.heap.size w w' := by
  have e : encN n = [UInt8.ofNat (240 + n / 262144), UInt8.ofNat (128 + n / 4096 % 64), UInt8.ofNat (128 + n / 64 % 64), UInt8.ofNat (128 + n % 64)] := by unfold encN; rw [if_neg (by omega)]; rw [if_neg (by omega)]; rw [if_neg (by omega)]
  rw [e]
  clear e
  obtain ⟨a, ea⟩ : ∃ a, n / 262144 = a := ⟨_, rfl⟩
  obtain ⟨x, ex⟩ : ∃ x, n / 4096 = x := ⟨_, rfl⟩
  obtain ⟨b, eb⟩ : ∃ b, x % 64 = b := ⟨_, rfl⟩
  obtain ⟨y, ey⟩ : ∃ y, n / 64 = y := ⟨_, rfl⟩
  obtain ⟨c, ec⟩ : ∃ c, y % 64 = c := ⟨_, rfl⟩
  obtain ⟨d, ed⟩ : ∃ d, n % 64 = d := ⟨_, rfl⟩
  have la : a < 5 := by omega
  have lx : x < 300 := by omega
  have ly : y < 20000 := by omega
  have lb : b < 64 := by omega
  have lc : c < 64 := by omega
  have ld : d < 64 := by omega
  have fa : (n : Int) / 262144 = a := by omega
  have fx : (n : Int) / 4096 = x := by omega
  have fb : (x : Int) % 64 = b := by omega
  have fy : (n : Int) / 64 = y := by omega
  have fc : (y : Int) % 64 = c := by omega
  have fd : (n : Int) % 64 = d := by omega
  rw [ea, ex, eb, ey, ec, ed]
  have i1 : (128 : Int) ≤ n := by omega
  have i2 : (2048 : Int) ≤ n := by omega
  have i3 : (65536 : Int) ≤ n := by omega
  clear ea ex eb ey ec ed hn ha0 ha ha1
  obtain ⟨m, hm⟩ : ∃ m : Int, (n : Int) = m := ⟨_, rfl⟩
  rw [hm] at fa fx fy fd i1 i2 i3
  rw [hm]
  clear hm
  go_enter Tryz.func178, Tryz.ntmps178
  go_wp2
  refine bodyPost_ret (v := .slice (some ⟨w.heap.size, 0, none⟩) 4 4) (by simp [results, Tryz.results178, go_sem]) rfl ⟨_, rfl, Own.fresh rfl ?_ (by simp) w, (Below.refl _ _).alloc (Nat.le_refl _) _⟩
  simp only [Lib.byteCells, List.map_cons, List.map_nil]
  rw [ofN _ (by omega), ofN _ (by omega), ofN _ (by omega), ofN _ (by omega)]; simp
theorem rbytes_any (n : Nat) (hn : isPt n = true) (w : World) :
    Calls Tryz.prog 178 #[.int .i64 (n : Int)] w fun e w' => ∃ v, e = .returned v ∧ Own w.heap.size v (encN n) w' ∧ Below w.heap.size w w' := by
  simp only [isPt, decide_eq_true_eq] at hn
  by_cases h1 : n < 128
  · exact rbytes1 n hn.1 h1 w
  by_cases h2 : n < 2048
  · exact rbytes2 n hn.1 h1 h2 w
  by_cases h3 : n < 65536
  · exact rbytes3 n hn.1 h1 h2 h3 w
  · exact rbytes4 n hn.1 h1 h2 h3 w
end Go.Proofs.YtgaknbnhmoddcaaGreatDoor
namespace Go.Proofs.YtgaknbnhmoddcaaGreatDoor
open Go.Lib
structure Cel where
  kind : UInt8
  name : List UInt8
  text : List UInt8
  num : Int
  many : Int
/-- May a cell be, but for its name, and for what stands in it? -/
def oneC (c : Cel) : Bool :=
  if c.kind = 0 then c.text.isEmpty && c.num == 0 && c.many == 0
  else if c.kind = 1 then c.text.isEmpty && (c.num == 0 || c.num == 1) && c.many == 0
  else if c.kind = 2 then c.text.isEmpty && c.many == 0
  else if c.kind = 3 then textB c.text && c.num == 0 && c.many == 0
  else if c.kind = 4 ∨ c.kind = 5 then nameB c.text && c.num == 0 && c.many == 0
  else if c.kind = 6 ∨ c.kind = 7 then c.text.isEmpty && c.num == 0 && decide (0 ≤ c.many)
  else false
def nestC (c : Cel) : Bool := c.kind == 6 || c.kind == 7
def amongB (l : List (List UInt8)) (n : List UInt8) : Bool := l.any fun x => x == n
/-- May an item, a member, have that name, behind those that have been? -/
def okN (isL : Bool) (names : List (List UInt8)) (n : List UInt8) : Bool := if isL then n.isEmpty else !n.isEmpty && textB n && !amongB names n
/-- How many cells so many items, members, have. -/
def kidsN (val : List Cel → Option Nat) (isL : Bool) : Nat → List (List UInt8) → List Cel → Option Nat
  | 0, _, _ => some 0
  | _ + 1, _, [] => none
  | n + 1, names, c :: r =>
    if okN isL names c.name then
      match val (c :: r) with
      | none => none
      | some k => (kidsN val isL n (c.name :: names) ((c :: r).drop k)).map (k + ·)
    else none
def headN (kids : Cel → List Cel → Option Nat) : List Cel → Option Nat
  | [] => none
  | c :: r => if oneC c then (if nestC c then (kids c r).map (1 + ·) else some 1) else none
/-- How many cells the value has that begins a list, at most so many in each other. -/
def valN : Nat → List Cel → Option Nat
  | 0 => headN fun _ _ => none
  | d + 1 => headN fun c r => kidsN (valN d) (c.kind == 6) c.many.toNat [] r
theorem kidsN_le (val : List Cel → Option Nat) (hv : ∀ l k, val l = some k → 1 ≤ k ∧ k ≤ l.length) (isL : Bool) : ∀ (n : Nat) (names : List (List UInt8)) (l : List Cel) (k : Nat), kidsN val isL n names l = some k → n ≤ k ∧ k ≤ l.length
  | 0, names, l, k, h => by
    have : k = 0 := (Option.some.inj h).symm
    omega
  | n + 1, names, [], k, h => by cases h
  | n + 1, names, c :: r, k, h => by
    rw [kidsN] at h
    split at h
    · split at h
      · cases h
      · rename_i k1 hk1
        obtain ⟨g1, g2⟩ := hv _ _ hk1
        rw [Option.map_eq_some_iff] at h
        obtain ⟨k2, hk2, rfl⟩ := h
        have := kidsN_le val hv isL n _ _ k2 hk2
        rw [List.length_drop] at this
        omega
    · cases h
theorem headN_cons (kids : Cel → List Cel → Option Nat) (c : Cel) (r : List Cel) : headN kids (c :: r) = if oneC c then (if nestC c then (kids c r).map (1 + ·) else some 1) else none := rfl
theorem valN_zero (l : List Cel) : valN 0 l = headN (fun _ _ => none) l := rfl
theorem valN_more (d : Nat) (l : List Cel) : valN (d + 1) l = headN (fun c r => kidsN (valN d) (c.kind == 6) c.many.toNat [] r) l := rfl
theorem headN_le (kids : Cel → List Cel → Option Nat) (hk : ∀ c r k, kids c r = some k → k ≤ r.length) (l : List Cel) (k : Nat) (h : headN kids l = some k) : 1 ≤ k ∧ k ≤ l.length := by
  cases l with
  | nil => cases h
  | cons c r =>
    rw [headN_cons] at h
    rw [List.length_cons]
    cases h1 : oneC c with
    | false => rw [h1] at h; cases h
    | true =>
      cases h2 : nestC c with
      | false =>
        rw [h1, h2] at h
        have : k = 1 := (Option.some.inj h).symm
        omega
      | true =>
        rw [h1, h2, if_pos rfl, if_pos rfl, Option.map_eq_some_iff] at h
        obtain ⟨k2, hk2, rfl⟩ := h
        have := hk _ _ _ hk2
        omega
theorem valN_le : ∀ (d : Nat) (l : List Cel) (k : Nat), valN d l = some k → 1 ≤ k ∧ k ≤ l.length
  | 0, l, k, h => headN_le _ (fun c r k h => by cases h) l k h
  | d + 1, l, k, h => headN_le _ (fun c r k h => (kidsN_le (valN d) (valN_le d) _ _ _ _ _ h).2) l k h
/-- More may be in each other: the same cells. -/
theorem kidsN_mono (f g : List Cel → Option Nat) (hfg : ∀ l k, f l = some k → g l = some k) (isL : Bool) : ∀ (n : Nat) (names : List (List UInt8)) (l : List Cel) (k : Nat), kidsN f isL n names l = some k → kidsN g isL n names l = some k
  | 0, names, l, k, h => h
  | n + 1, names, [], k, h => h
  | n + 1, names, c :: r, k, h => by
    rw [kidsN] at h ⊢
    split at h
    · rename_i hok
      rw [if_pos hok]
      split at h
      · cases h
      · rename_i k1 hk1
        rw [hfg _ _ hk1]
        rw [Option.map_eq_some_iff] at h
        obtain ⟨k2, hk2, rfl⟩ := h
        show (kidsN g isL n _ _).map _ = _
        rw [kidsN_mono f g hfg isL n _ _ k2 hk2]; rfl
    · cases h
theorem headN_mono (f g : Cel → List Cel → Option Nat) (hfg : ∀ c r k, f c r = some k → g c r = some k) (l : List Cel) (k : Nat) (h : headN f l = some k) : headN g l = some k := by
  cases l with
  | nil => cases h
  | cons c r =>
    rw [headN_cons] at h ⊢
    cases h1 : oneC c with
    | false => rw [h1] at h; cases h
    | true =>
      cases h2 : nestC c with
      | false => rw [h1, h2] at h; exact h
      | true =>
        rw [h1, h2, if_pos rfl, if_pos rfl, Option.map_eq_some_iff] at h
        obtain ⟨k2, hk2, rfl⟩ := h
        rw [if_pos rfl, if_pos rfl, hfg _ _ _ hk2]; rfl
theorem valN_succ : ∀ (d : Nat) (l : List Cel) (k : Nat), valN d l = some k → valN (d + 1) l = some k
  | 0, l, k, h => headN_mono _ _ (fun c r k h => by cases h) l k h
  | d + 1, l, k, h => headN_mono _ _ (fun c r k h => kidsN_mono (valN d) (valN (d + 1)) (valN_succ d) _ _ _ _ _ h) l k h
theorem valN_mono {d e : Nat} (h : d ≤ e) (l : List Cel) (k : Nat) (hv : valN d l = some k) : valN e l = some k := by
  induction h with
  | refl => exact hv
  | step _ ih => exact valN_succ _ _ _ ih
/-- Are cells a value? -/
def mayB (V : List Cel) : Bool := decide (0 < V.length) && decide (V.length ≤ 2048) && (V.headD ⟨0, [0], [], 0, 0⟩).name.isEmpty && (valN 16 V == some V.length)
/-- Where the value ends that begins at a place; below 0: there is none. -/
def endI (V : List Cel) (at_ d : Nat) : Int := match valN d (V.drop at_) with | none => -1 | some k => ((at_ + k : Nat) : Int)
end Go.Proofs.YtgaknbnhmoddcaaGreatDoor
namespace Go.Proofs.YtgaknbnhmoddcaaGreatDoor
open Go.RowKit
theorem ret_i {a c : Int} (h : a = c) : Ending.returned (.int .i64 a) = .returned (.int .i64 c) := by rw [h]
theorem below_dN {B : Nat} {w w1 : World} (n : Nat) (h : Below B w w1) : Below B w (w1.drewN n) := h.trans ⟨rfl, rfl, rfl, Nat.le_refl _, fun _ _ => rfl⟩
theorem lt_of_cell {W : World} {b o : Nat} {v : Value} (h : W.cell? ⟨b, o, none⟩ = some v) : b < W.heap.size := by
  rcases Nat.lt_or_ge b W.heap.size with h' | h'
  · exact h'
  · exfalso
    have : W.heap[b]? = none := Array.getElem?_eq_none h'
    simp [World.cell?, this] at h
theorem heap_lt {b : Nat} {W : World} {o : Obj} (h : W.heap[b]? = some o) : b < W.heap.size := (Array.getElem?_eq_some_iff.1 h).1
theorem heap_old {b : Nat} {W : World} {o o' : Obj} (h : W.heap[b]? = some o) : (W.alloc o').heap[b]? = some o := by
  rw [Below.heap_alloc _ _ _ (Array.getElem?_eq_some_iff.1 h).1]; exact h
theorem heap_new (W : World) (o : Obj) (b : Nat) (hb : b = W.heap.size) : (W.alloc o).heap[b]? = some o := by rw [hb]; exact heap_alloc_new W o
/-- A cell's five values. -/
def celCells (c : Cel) : Array Value := #[.int .u8 (c.kind.toNat : Int), .string ⟨c.name.toArray⟩, .string ⟨c.text.toArray⟩, .int .i64 c.num, .int .i64 c.many]
/-- Cells that stand in a row from a place of a block on. -/
def CelRow (b off : Nat) (V : List Cel) (W : World) : Prop := ∀ (k : Nat) (h : k < V.length), W.cell? ⟨b, off + k * 5, none⟩ = some (.int .u8 (V[k].kind.toNat : Int)) ∧ W.cell? ⟨b, off + k * 5 + 1, none⟩ = some (.string ⟨V[k].name.toArray⟩) ∧ W.cell? ⟨b, off + k * 5 + 2, none⟩ = some (.string ⟨V[k].text.toArray⟩) ∧ W.cell? ⟨b, off + k * 5 + 3, none⟩ = some (.int .i64 V[k].num) ∧ W.cell? ⟨b, off + k * 5 + 4, none⟩ = some (.int .i64 V[k].many)
theorem CelRow.below {b off : Nat} {V : List Cel} {w w' : World} {B : Nat} (h : CelRow b off V w) (hb : Below B w w') (hlt : b < B) : CelRow b off V w' := by
  intro k hk
  obtain ⟨h0, h1, h2, h3, h4⟩ := h k hk
  exact ⟨(hb.cell (p := ⟨b, _, none⟩) hlt).trans h0, (hb.cell (p := ⟨b, _, none⟩) hlt).trans h1, (hb.cell (p := ⟨b, _, none⟩) hlt).trans h2, (hb.cell (p := ⟨b, _, none⟩) hlt).trans h3, (hb.cell (p := ⟨b, _, none⟩) hlt).trans h4⟩
theorem CelRow.below' {b off : Nat} {V : List Cel} {w w' : World} (h : CelRow b off V w) (hb : Below w.heap.size w w') : CelRow b off V w' := by
  intro k hk
  exact h.below hb (lt_of_cell (h k hk).1) k hk
theorem CelRow.lt {b off : Nat} {V : List Cel} {w : World} (h : CelRow b off V w) (hV : 0 < V.length) : b < w.heap.size := lt_of_cell (h 0 hV).1
/-- A slice that reads as cells. -/
def CelSl (v : Value) (V : List Cel) (W : World) : Prop := (∃ a cap, v = .slice a 0 cap ∧ V = [] ∧ (a = none → cap = 0)) ∨ ∃ b off cap, v = .slice (some ⟨b, off, none⟩) V.length cap ∧ CelRow b off V W ∧ 0 < V.length
theorem CelSl.below {v : Value} {V : List Cel} {w w' : World} (h : CelSl v V w) (hb : Below w.heap.size w w') : CelSl v V w' := by
  rcases h with h | ⟨b, off, cap, h1, h2, h3⟩
  · exact Or.inl h
  · exact Or.inr ⟨b, off, cap, h1, h2.below' hb, h3⟩
/-- Cells that a statement goes through. -/
def SmallV (V : List Cel) : Prop := V.length ≤ 100000 ∧ ∀ c ∈ V, c.name.length ≤ 100000 ∧ c.text.length ≤ 100000 ∧ R c.num ∧ R c.many
end Go.Proofs.YtgaknbnhmoddcaaGreatDoor
namespace Go.Proofs.YtgaknbnhmoddcaaGreatDoor
open Go.RowKit
/-- Tokens that stand in a row from a place of a block on. -/
def TokRow (b off : Nat) (L : List Tok) (W : World) : Prop := ∀ (k : Nat) (h : k < L.length), W.cell? ⟨b, off + k * 3, none⟩ = some (.int .u8 (L[k].kind.toNat : Int)) ∧ W.cell? ⟨b, off + k * 3 + 1, none⟩ = some (.string ⟨L[k].text.toArray⟩) ∧ W.cell? ⟨b, off + k * 3 + 2, none⟩ = some (.int .i64 L[k].pos)
theorem TokRow.below {b off : Nat} {L : List Tok} {w w' : World} (h : TokRow b off L w) (hb : Below w.heap.size w w') (hlt : b < w.heap.size) : TokRow b off L w' := by
  intro k hk
  obtain ⟨h1, h2, h3⟩ := h k hk
  exact ⟨(hb.cell (p := ⟨b, _, none⟩) hlt).trans h1, (hb.cell (p := ⟨b, _, none⟩) hlt).trans h2, (hb.cell (p := ⟨b, _, none⟩) hlt).trans h3⟩
theorem TokRow.below' {b off : Nat} {L : List Tok} {w w' : World} (h : TokRow b off L w) (hb : Below w.heap.size w w') : TokRow b off L w' := by
  intro k hk
  exact h.below hb (lt_of_cell (h k hk).1) k hk
/-- A slice that reads as tokens. -/
def TokSl (v : Value) (L : List Tok) (W : World) : Prop := (∃ a cap, v = .slice a 0 cap ∧ L = [] ∧ (a = none → cap = 0)) ∨ ∃ b off cap, v = .slice (some ⟨b, off, none⟩) L.length cap ∧ TokRow b off L W
theorem TokSl.below {v : Value} {L : List Tok} {w w' : World} (h : TokSl v L w) (hb : Below w.heap.size w w') : TokSl v L w' := by
  rcases h with h | ⟨b, off, cap, h1, h2⟩
  · exact Or.inl h
  · exact Or.inr ⟨b, off, cap, h1, h2.below' hb⟩
theorem TokSl.nil (w : World) : TokSl (.slice none 0 0) [] w := Or.inl ⟨_, _, rfl, rfl, fun _ => rfl⟩
def sameP (a : Bool) (t u : Tok) : Bool := t.kind == u.kind && t.text == u.text && (!a || t.pos == u.pos)
/-- Are two lists of tokens the same (a: whether the places count)? -/
def sameT (a : Bool) : List Tok → List Tok → Bool
  | [], [] => true
  | t :: r, u :: s => sameP a t u && sameT a r s
  | _, _ => false
theorem sameT_len (a : Bool) : ∀ (L M : List Tok), L.length ≠ M.length → sameT a L M = false
  | [], [], h => absurd rfl h
  | [], _ :: _, _ => rfl
  | _ :: _, [], _ => rfl
  | t :: r, u :: s, h => by
    rw [sameT, sameT_len a r s (by simpa using h), Bool.and_false]
theorem sameT_self (a : Bool) : ∀ L : List Tok, sameT a L L = true
  | [] => rfl
  | t :: r => by rw [sameT, sameT_self a r]; simp [sameP]
theorem sameT_drop (a : Bool) (L M : List Tok) (k : Nat) (h : k < L.length) (h' : k < M.length) : sameT a (L.drop k) (M.drop k) = (sameP a L[k] M[k] && sameT a (L.drop (k + 1)) (M.drop (k + 1))) := by
  rw [List.drop_eq_getElem_cons h, List.drop_eq_getElem_cons h', sameT]
end Go.Proofs.YtgaknbnhmoddcaaGreatDoor
namespace Go.Proofs.YtgaknbnhmoddcaaGreatDoor
open Go.RowKit
theorem tok_info : (Tryz.prog.info? 72).map (fun i => (i.zero, i.size, i.bytes)) = some (some (.agg #[.int .u8 0, .string ⟨#[]⟩, .int .i64 0]), 3, 32) := by kernel_rfl
def tokCells : List Tok → List Value
  | [] => []
  | t :: r => .int .u8 (t.kind.toNat : Int) :: .string ⟨t.text.toArray⟩ :: .int .i64 t.pos :: tokCells r
theorem tokCells_len : ∀ L : List Tok, (tokCells L).length = L.length * 3
  | [] => rfl
  | t :: r => by rw [tokCells]; simp [tokCells_len r]; omega
theorem tokCells_app : ∀ L M : List Tok, tokCells (L ++ M) = tokCells L ++ tokCells M
  | [], _ => rfl
  | t :: r, M => by rw [List.cons_append, tokCells, tokCells_app r M, tokCells]; rfl
theorem tokCells_one : ∀ L : List Tok, ∀ u ∈ tokCells L, u.oneCell' = true
  | [], u, h => by cases h
  | t :: r, u, h => by
    rw [tokCells] at h
    rcases List.mem_cons.1 h with h | h
    · rw [h]; rfl
    rcases List.mem_cons.1 h with h | h
    · rw [h]; rfl
    rcases List.mem_cons.1 h with h | h
    · rw [h]; rfl
    · exact tokCells_one r u h
theorem tokCells_get : ∀ (L : List Tok) (k : Nat) (h : k < L.length), (tokCells L)[k * 3]? = some (.int .u8 (L[k].kind.toNat : Int)) ∧ (tokCells L)[k * 3 + 1]? = some (.string ⟨L[k].text.toArray⟩) ∧ (tokCells L)[k * 3 + 2]? = some (.int .i64 L[k].pos)
  | [], k, h => by simp at h
  | t :: r, 0, h => by simp [tokCells]
  | t :: r, k + 1, h => by
    have ih := tokCells_get r k (by simpa using h)
    rw [show (k + 1) * 3 = k * 3 + 1 + 1 + 1 from by omega, show k * 3 + 1 + 1 + 1 + 1 = k * 3 + 1 + 1 + 1 + 1 from rfl]
    simp only [tokCells, List.getElem?_cons_succ, List.getElem_cons_succ]
    exact ih
theorem row_cells : ∀ (L : List Tok) (b off : Nat) (w : World), TokRow b off L w → ∀ j u, (tokCells L)[j]? = some u → w.cell? ⟨b, off + j, none⟩ = some u
  | [], b, off, w, h, j, u, hu => by simp [tokCells] at hu
  | t :: r, b, off, w, h, j, u, hu => by
    obtain ⟨c0, c1, c2⟩ := h 0 (by simp)
    rw [tokCells] at hu
    match j, hu with
    | 0, hu => rw [← hu]; simpa using c0
    | 1, hu => rw [← hu]; simpa using c1
    | 2, hu => rw [← hu]; simpa using c2
    | j + 3, hu =>
      have ht : TokRow b (off + 3) r w := by
        intro k hk
        have := h (k + 1) (by simpa using hk)
        rw [show off + (k + 1) * 3 = off + 3 + k * 3 from by omega] at this
        exact this
      have := row_cells r b (off + 3) w ht j u (by simpa using hu)
      rw [show off + (j + 3) = off + 3 + j from by omega]
      exact this
theorem addr_addT (b o j : Nat) : (⟨b, o, none⟩ : Addr).add j = ⟨b, o + j, none⟩ := by
  unfold Addr.add
  split
  · rename_i hz; rw [hz]; rfl
  · rfl
/-- A slice of tokens of the call's own. -/
def OwnT (B : Nat) (v : Value) (L : List Tok) (W : World) : Prop := W.ownsRow B 72 3 v L.length (tokCells L)
theorem OwnT.nil (B : Nat) (W : World) : OwnT B (.slice none 0 0) [] W := World.ownsRow_nil W B 72 3
theorem OwnT.below {B : Nat} {v : Value} {l : List Tok} {w w' : World} (h : OwnT B v l w) (hb : Below w.heap.size w w') : OwnT B v l w' := by
  obtain ⟨h1, h2⟩ := h
  refine ⟨h1, ?_⟩
  rcases h2 with h2 | ⟨g, cap, cur, hv, hB, hg, hrest⟩
  · exact Or.inl h2
  · have hlt : g < w.heap.size := (Array.getElem?_eq_some_iff.1 hg).1
    exact Or.inr ⟨g, cap, cur, hv, hB, (hb.block g hlt).trans hg, hrest⟩
theorem OwnT.alloc {B : Nat} {v : Value} {l : List Tok} {w : World} (h : OwnT B v l w) (o : Obj) : OwnT B v l (w.alloc o) := World.ownsRow.alloc h o
theorem OwnT.lt {B : Nat} {v : Value} {l : List Tok} {w : World} (h : OwnT B v l w) : ∀ k, v.ownBlock = some k → B ≤ k := fun k hk => (World.ownsRow.lt h k hk).1
theorem OwnT.sl {B : Nat} {v : Value} {L : List Tok} {w : World} (h : OwnT B v L w) : TokSl v L w := by
  obtain ⟨h1, h2⟩ := h
  rcases h2 with ⟨rfl, h2⟩ | ⟨g, cap, cur, rfl, hB, hg, hn, hc, hcs, ht⟩
  · exact Or.inl ⟨_, _, rfl, List.eq_nil_of_length_eq_zero h2, fun _ => rfl⟩
  · refine Or.inr ⟨g, 0, cap, rfl, ?_⟩
    intro k hk
    obtain ⟨g0, g1, g2⟩ := tokCells_get L k hk
    have F : ∀ j u, (tokCells L)[j]? = some u → w.cell? ⟨g, 0 + j, none⟩ = some u := by
      intro j u hj
      have hjl : j < L.length * 3 := by rw [← tokCells_len]; exact (List.getElem?_eq_some_iff.1 hj).1
      rw [← ht, List.getElem?_take, if_pos hjl] at hj
      rw [Nat.zero_add]
      refine (Lib.cell_of_heap hg j).trans ?_
      simpa using hj
    exact ⟨F _ _ g0, F _ _ g1, F _ _ g2⟩
/-- 'append(v, u..)' of tokens that stand in a row. -/
theorem wpList_appT {ops : Array Oper} {rest : List Oper} {o : Oper} {a : Act} {Q : Exit → Act → World → Prop} {w : World} (hgd : o.guard = none) (s x : Operand)
    (ho : o.op = .call { callee := .builtin .append, args := #[s, x], argTypes := #[32, 32] }) (B : Nat) (v u : Value) (L M : List Tok) (hs : a.eval s = v) (hown : OwnT B v L w)
    (hx : a.eval x = u) (hu : TokSl u M w) (hlen : L.length + M.length ≤ 1000000) (hB : B ≤ w.heap.size)
    (h : ∀ v' w', OwnT B v' (L ++ M) w' → w.grownBy w' v.ownBlock → wpList Tryz.prog ops Q rest (a.put o.dst v') w') : wpList Tryz.prog ops Q (o :: rest) a w := by
  obtain ⟨i0, hi, hz0, hz1, hz2⟩ := info_parts tok_info
  have fin : ∀ (ad : Addr) (c : Nat), u = .slice (some ad) M.length c → (∀ j q, (tokCells M)[j]? = some q → w.cell? (ad.add j) = some q) → wpList Tryz.prog ops Q (o :: rest) a w := by
    intro ad c hu2 hcells
    refine wpList_append_own w hgd s x 32 ho B 72 i0 (.agg #[.int .u8 0, .string ⟨#[]⟩, .int .i64 0]) 3 32 Tryz.underlying32 hi hz0 hz1 hz2 rfl (by decide) v L.length (tokCells L) hs hown ad M.length c (tokCells M) (hx.trans hu2) (tokCells_len M) hcells (tokCells_one M) (by unfold maxLen; omega) (by omega) hB ?_
    intro v' w' h1 h2 _
    refine h v' w' ?_ h2
    unfold OwnT
    rw [List.length_append, tokCells_app]
    exact h1
  rcases hu with ⟨ua, uc, hu2, rfl, hcap⟩ | ⟨b, off, cap, hu2, hr⟩
  · rcases ua with _ | ad
    · refine wpList_append_own_none hgd s x 32 ho B 72 i0 3 Tryz.underlying32 hi v L.length (tokCells L) hs hown (by rw [hx, hu2, hcap rfl]) ?_
      have := h v w (by rw [List.append_nil]; exact hown) (World.grownBy.refl w _)
      exact this
    · exact fin ad uc hu2 (fun j q hq => by simp [tokCells] at hq)
  · exact fin ⟨b, off, none⟩ cap hu2 (fun j q hq => by rw [addr_addT]; exact row_cells M b off w hr j q hq)
end Go.Proofs.YtgaknbnhmoddcaaGreatDoor
namespace Go.Proofs.YtgaknbnhmoddcaaGreatDoor
open Go.Lib
def blankJ (c : UInt8) : Bool := c == 32 || c == 9 || c == 13 || c == 10
def blJ (l : List UInt8) : List UInt8 := l.dropWhile blankJ
/-- A text that has to stand next: what stands behind it. -/
def tkJ (what l : List UInt8) : Option (List UInt8) := if what.isPrefixOf l then some (l.drop what.length) else none
/-- Behind a part of a number that has digits. -/
def partJ (mark sign : UInt8 → Bool) : List UInt8 → Option (List UInt8)
  | [] => none
  | c :: r => if mark c then
      (let r1 := if (r.head?.map sign).getD false then r.tail else r
       if (r1.takeWhile isDig).isEmpty then none else some (r1.dropWhile isDig)) else none
/-- The digits ahead of a point. -/
def wholeJ (l : List UInt8) : List UInt8 := if l.head? == some 48 then [48] else l.takeWhile isDig
def pointJ : List UInt8 → Option (List UInt8) := partJ (fun c => c == 46) (fun _ => false)
def powerJ : List UInt8 → Option (List UInt8) := partJ (fun c => c == 101 || c == 69) (fun c => c == 43 || c == 45)
def numJ (l : List UInt8) : Except Int (Int × List UInt8) :=
  let d := wholeJ (body l)
  if d.isEmpty then .error 40 else
  let l2 := (body l).drop d.length
  let l3 := (pointJ l2).getD l2
  let l4 := (powerJ l3).getD l3
  let t := (if below l then [45] else []) ++ d
  if (pointJ l2).isSome || (powerJ l3).isSome || rdE t != 0 then .error 41 else .ok (rdV t, l4)
def hexJ (c : UInt8) : Option Nat :=
  if 48 ≤ c.toNat ∧ c.toNat ≤ 57 then some (c.toNat - 48) else if 97 ≤ c.toNat ∧ c.toNat ≤ 102 then some (c.toNat - 87)
  else if 65 ≤ c.toNat ∧ c.toNat ≤ 70 then some (c.toNat - 55) else none
/-- So many digits to the base of 16, behind a number. -/
def hexsJ : Nat → Nat → List UInt8 → Option (Nat × List UInt8)
  | 0, n, l => some (n, l)
  | _ + 1, _, [] => none
  | k + 1, n, c :: r => match hexJ c with
    | none => none
    | some d => hexsJ k (n * 16 + d) r
/-- What the letters behind a backslash tell that tell one byte. -/
def letJ (c : UInt8) : Option Nat :=
  if c = 34 then some 34 else if c = 92 then some 92 else if c = 47 then some 47 else if c = 98 then some 8 else if c = 102 then some 12
  else if c = 110 then some 10 else if c = 114 then some 13 else if c = 116 then some 9 else none
/-- Behind a high half: the low one. -/
def lowJ (n : Nat) (l : List UInt8) : Option (Nat × List UInt8) := match tkJ [92, 117] l with
  | none => none
  | some r => match hexsJ 4 0 r with
    | none => none
    | some (m, t) => if m < 56320 ∨ 57343 < m then none else some (65536 + (n - 55296) * 1024 + (m - 56320), t)
def escJ : List UInt8 → Option (Nat × List UInt8)
  | [] => none
  | c :: r => match letJ c with
    | some p => some (p, r)
    | none => if c ≠ 117 then none else match hexsJ 4 0 r with
      | none => none
      | some (n, t) => if 56320 ≤ n ∧ n ≤ 57343 then none else if 55296 ≤ n ∧ n ≤ 56319 then lowJ n t else some (n, t)
/-- Behind the first quote: the code points, and what stands behind the last quote. -/
def strGo : Nat → List UInt8 → Option (List Nat × List UInt8)
  | 0, _ => none
  | _ + 1, [] => none
  | f + 1, c :: r => if c = 34 then some ([], r) else if c.toNat < 32 then none
    else if c = 92 then (match escJ r with
      | none => none
      | some (p, t) => (strGo f t).map fun x => (p :: x.1, x.2))
    else (strGo f ((c :: r).drop (decodeL (c :: r)).2)).map fun x => ((decodeL (c :: r)).1 :: x.1, x.2)
def strJ (l : List UInt8) : Option (List UInt8 × List UInt8) := match tkJ [34] l with
  | none => none
  | some r => (strGo r.length r).map fun x => (x.1.flatMap encN, x.2)
/-- A member's name and the colon: the name, what stands behind. -/
def memJ (nm : List (List UInt8)) (l : List UInt8) : Except Int (List UInt8 × List UInt8) := match strJ l with
  | none => .error 40
  | some (s, t) => if nm.contains s then .error 42 else if s.isEmpty then .error 8 else match tkJ [58] (blJ t) with
    | none => .error 40
    | some r => .ok (s, r)
/-- The items, the members, until the bracket: how many, what stands behind it, the cells. -/
def itemsJ (val : List UInt8 → List UInt8 → List Cel → Except Int (List UInt8 × List Cel)) (isO : Bool) : Nat → Nat → List (List UInt8) → List UInt8 → List Cel → Except Int (Nat × List UInt8 × List Cel)
  | 0, _, _, _, _ => .error 40
  | f + 1, n, nm, l, out => match tkJ [if isO then 125 else 93] l with
    | some r => .ok (n, r, out)
    | none => match (if n = 0 then some l else (tkJ [44] l).map blJ) with
      | none => .error 40
      | some l1 => match (if isO then memJ nm l1 else .ok ([], l1)) with
        | .error e => .error e
        | .ok (s, l2) => match val s l2 out with
          | .error e => .error e
          | .ok (l3, out2) => itemsJ val isO f (n + 1) (if isO then s :: nm else nm) (blJ l3) out2
def begJ (c : UInt8) : Bool := c == 123 || c == 91 || c == 34 || c == 116 || c == 102 || c == 110 || c == 45 || isDig c
def manyAt (k n : Nat) (out : List Cel) : List Cel := out.modify k fun c => { c with many := (n : Int) }
/-- A value that has nothing under it. -/
def leafJ (name : List UInt8) (c : UInt8) (l : List UInt8) (out : List Cel) : Except Int (List UInt8 × List Cel) :=
  if c = 34 then (match strJ l with | none => .error 40 | some (s, t) => .ok (t, out ++ [⟨3, name, s, 0, 0⟩]))
  else if c = 116 then (match tkJ [116, 114, 117, 101] l with | none => .error 40 | some t => .ok (t, out ++ [⟨1, name, [], 1, 0⟩]))
  else if c = 102 then (match tkJ [102, 97, 108, 115, 101] l with | none => .error 40 | some t => .ok (t, out ++ [⟨1, name, [], 0, 0⟩]))
  else if c = 110 then (match tkJ [110, 117, 108, 108] l with | none => .error 40 | some t => .ok (t, out ++ [⟨0, name, [], 0, 0⟩]))
  else (match numJ l with | .error e => .error e | .ok (n, t) => .ok (t, out ++ [⟨2, name, [], n, 0⟩]))
/-- A value: so many brackets more may be opened. -/
def valJ : Nat → List UInt8 → List UInt8 → List Cel → Except Int (List UInt8 × List Cel)
  | d, name, l, out => match blJ l with
    | [] => .error 40
    | c :: r => if !begJ c then .error 40 else if out.length = 2048 then .error 4 else
      if c = 123 ∨ c = 91 then (match d with
        | 0 => .error 30
        | d + 1 => match itemsJ (valJ d) (c == 123) (r.length + 1) 0 [] (blJ r) (out ++ [⟨if c = 123 then 7 else 6, name, [], 0, 0⟩]) with
          | .error e => .error e
          | .ok (n, t, out2) => .ok (t, manyAt out.length n out2))
      else leafJ name c (c :: r) out
/-- What json.Read tells of bytes that are a text. -/
def readJ (l : List UInt8) : Except Int (List Cel) := match valJ 16 [] l [] with
  | .error e => .error e
  | .ok (t, out) => if (blJ t).isEmpty then .ok out else .error 40
end Go.Proofs.YtgaknbnhmoddcaaGreatDoor
namespace Go.Proofs.YtgaknbnhmoddcaaGreatDoor
open Go.RowKit
/-- All older blocks but one stay. -/
def RK (r : Nat) (W W' : World) : Prop := Below r W W' ∧ ∀ (k : Nat) (o : Obj), W.heap[k]? = some o → k ≠ r → W'.heap[k]? = some o
theorem RK.refl (r : Nat) (W : World) : RK r W W := ⟨Below.refl _ _, fun _ _ h _ => h⟩
theorem RK.trans {r : Nat} {W W' W'' : World} (h : RK r W W') (h' : RK r W' W'') : RK r W W'' := ⟨h.1.trans h'.1, fun k o hk hne => h'.2 k o (h.2 k o hk hne) hne⟩
theorem RK.of_below {r : Nat} {W W' : World} (h : Below W.heap.size W W') (hr : r < W.heap.size) : RK r W W' := ⟨h.mono (Nat.le_of_lt hr), fun k o hk _ => (h.block k (heap_lt hk)).trans hk⟩
theorem pset {b i : Nat} {W : World} {A A' : Array Value} {T : TypeId} (h : W.heap[b]? = some (.cells A T (0, 0))) (v : Value) (hA : A.setIfInBounds i v = A') : (W.setCell ⟨b, i, none⟩ v).heap[b]? = some (.cells A' T (0, 0)) := by
  subst hA
  have hlt : b < W.heap.size := (Array.getElem?_eq_some_iff.1 h).1
  simp only [World.setCell, Array.getElem?_modify]
  simp [h]
theorem RK.set (r i : Nat) (W : World) (v : Value) : RK r W (W.setCell ⟨r, i, none⟩ v) := by
  refine ⟨(Below.refl r W).setCell (p := ⟨r, i, none⟩) (Nat.le_refl _) v, fun k o hk hne => ?_⟩
  rw [Below.heap_setCell _ _ _ _ hne]; exact hk
end Go.Proofs.YtgaknbnhmoddcaaGreatDoor
namespace Go.Proofs.YtgaknbnhmoddcaaGreatDoor
open Go.RowKit Go.Lib
/-- The program's reader of literals stands at a token. -/
def LS (p tb off cap : Nat) (T : List Tok) (fx : Bool) (k : Nat) (op : Int) (v : Value) (W : World) : Prop :=
  W.heap[p]? = some (.cells #[.slice (some ⟨tb, off, none⟩) T.length cap, .int .i64 k, .bool fx, .int .i64 op, v] 147 (0, 0)) ∧ TokRow tb off T W ∧ tb < p ∧ (T.length ≤ 100000 ∧ ∀ t ∈ T, t.text.length ≤ 100000) ∧ k ≤ 200000
section
variable {p tb off cap : Nat} {T : List Tok} {fx : Bool} {k : Nat} {op : Int} {v : Value} {W W' : World}
theorem LS.lt (h : LS p tb off cap T fx k op v W) : p < W.heap.size := heap_lt h.1
theorem LS.cells (h : LS p tb off cap T fx k op v W) :
    W.cell? ⟨p, 0, none⟩ = some (.slice (some ⟨tb, off, none⟩) T.length cap) ∧ W.cell? ⟨p, 1, none⟩ = some (.int .i64 k) ∧ W.cell? ⟨p, 2, none⟩ = some (.bool fx) ∧ W.cell? ⟨p, 3, none⟩ = some (.int .i64 op) ∧ W.cell? ⟨p, 4, none⟩ = some v := by
  refine ⟨?_, ?_, ?_, ?_, ?_⟩
  all_goals (rw [Lib.cell_of_heap h.1]; rfl)
theorem LS.frozen (h : LS p tb off cap T fx k op v W) (i : Nat) : W.frozen? ⟨p, i, none⟩ = false := Lib.frozen_of_heap h.1 i
theorem TokRow.rk {L : List Tok} (h : TokRow tb off L W) (hk : RK p W W') (hne : tb ≠ p) : TokRow tb off L W' := by
  intro i hi
  obtain ⟨h1, h2, h3⟩ := h i hi
  have hb : W'.heap[tb]? = W.heap[tb]? := by
    have hlt := lt_of_cell h1
    obtain ⟨o, ho⟩ : ∃ o, W.heap[tb]? = some o := ⟨_, Array.getElem?_eq_getElem hlt⟩
    rw [ho]; exact hk.2 tb o ho hne
  refine ⟨?_, ?_, ?_⟩
  · rw [← h1]; unfold World.cell?; rw [hb]
  · rw [← h2]; unfold World.cell?; rw [hb]
  · rw [← h3]; unfold World.cell?; rw [hb]
theorem LS.rk {k' : Nat} {op' : Int} {v' : Value} (h : LS p tb off cap T fx k op v W) (hk : RK p W W') (hW : W'.heap[p]? = some (.cells #[.slice (some ⟨tb, off, none⟩) T.length cap, .int .i64 k', .bool fx, .int .i64 op', v'] 147 (0, 0))) (hk' : k' ≤ 200000) : LS p tb off cap T fx k' op' v' W' :=
  ⟨hW, h.2.1.rk hk (Nat.ne_of_lt h.2.2.1), h.2.2.1, h.2.2.2.1, hk'⟩
theorem LS.below (h : LS p tb off cap T fx k op v W) (hb : Below W.heap.size W W') : LS p tb off cap T fx k op v W' :=
  h.rk (RK.of_below hb h.lt) ((hb.block p h.lt).trans h.1) h.2.2.2.2
theorem LS.out (h : LS p tb off cap T fx k op v W) (v' : Value) : LS p tb off cap T fx k op v' (W.setCell ⟨p, 4, none⟩ v') := h.rk (RK.set p 4 W _) (pset h.1 _ rfl) h.2.2.2.2
end
end Go.Proofs.YtgaknbnhmoddcaaGreatDoor
namespace Go.Proofs.YtgaknbnhmoddcaaGreatDoor
open Go.RowKit Go.Lib
/-- An operation that is not wanted is taken first. -/
theorem tkn {P : Program} {ops : Array Oper} {Q : Exit → Act → World → Prop} {md : Region.Mode} {S : World → Prop} (i : Nat) (d : Option Tmp) {oi : Oper} {fuel : Nat} {listed : Array Bool} {a : Act} {w : World} (hi' : ops.toList[i]? = some oi)
    (hk : (Region.noSelect ops && Region.free md ops listed i && (Region.ready md ops listed).contains i) = true) (hw : Region.wanted oi (yielded ops a.tmps) = false)
    (hd : oi.dst = d) (hQ : ∀ c a w, Q (.panic c) (a.put d undef) w → Q (.panic c) a w) (hS : S w)
    (h : wpAnyH P md ops Q S fuel (listed.setIfInBounds i true) (a.put d undef) w) : wpAnyH P md ops Q S (fuel + 1) listed a w := by
  have hi : ops[i]? = some oi := by rw [← Array.getElem?_toList]; exact hi'
  subst hd
  simp only [Bool.and_eq_true] at hk
  exact wpAnyH_take hi hk.1.1 hk.1.2 hk.2 hQ (Or.inr ⟨hw, rfl⟩) hS h
/-- An operation that yields in every world that meets S is taken first. -/
theorem tky {P : Program} {ops : Array Oper} {Q : Exit → Act → World → Prop} {md : Region.Mode} {S : World → Prop} (i : Nat) (d : Option Tmp) {v : Value} {oi : Oper} {fuel : Nat} {listed : Array Bool} {a : Act} {w : World} (hi' : ops.toList[i]? = some oi)
    (hk : (Region.noSelect ops && Region.free md ops listed i && (Region.ready md ops listed).contains i) = true) (hw : Region.wanted oi (yielded ops a.tmps) = true)
    (hd : oi.dst = d) (hQ : ∀ c a w, Q (.panic c) (a.put d v) w → Q (.panic c) a w) (hy : ∀ w, S w → (execOp a.eval oi).run P w = .ok (.value v) w) (hS : S w)
    (h : wpAnyH P md ops Q S fuel (listed.setIfInBounds i true) (a.put d v) w) : wpAnyH P md ops Q S (fuel + 1) listed a w := by
  have hi : ops[i]? = some oi := by rw [← Array.getElem?_toList]; exact hi'
  subst hd
  simp only [Bool.and_eq_true] at hk
  exact wpAnyH_take hi hk.1.1 hk.1.2 hk.2 hQ (Or.inl ⟨hw, hy⟩) hS h
/-- What is carried out comes up alone. -/
theorem rcons {P : Program} {ops : Array Oper} {Q : Exit → Act → World → Prop} {md : Region.Mode} {S : World → Prop} (i : Nat) {fuel : Nat} {listed : Array Bool} {a : Act} {w : World} {o : Oper} (ho : ops.toList[i]? = some o) (hr : Region.ready md ops listed = [i])
    (h : ∀ K' : Act → World → Prop, Shut (∀ a w, S w → (S w → wpAnyH P md ops Q S fuel (listed.setIfInBounds i true) a w) → K' a w) → if Region.wanted o (yielded ops a.tmps) = true then Oper.wp P o a w K' Q else K' (a.put o.dst undef) w) : wpAnyH P md ops Q S (fuel + 1) listed a w :=
  wpAnyH_ready (rs := [i]) hr (by simp) (AllReadyH.cons (by rw [← Array.getElem?_toList]; exact ho) h AllReadyH.nil)
theorem ext_list (s : ByteArray) (a m : Nat) : (s.extract a (a + m)).toList = (s.data.toList.drop a).take m := by
  rw [ByteArray.toList_eq, ByteArray.data_extract, Array.toList_extract, List.extract_eq_take_drop]
  rw [show a + m - a = m by omega]
set_option maxRecDepth 100000 in
set_option maxHeartbeats 2000000 in
theorem rone_no (s : ByteArray) (k m n : Nat) (H1 : Hid (∀ w, Calls Tryz.prog 176 #[.string s, .int .i64 (k : Int), .int .i64 (m : Int)] w fun e w' => e = .returned (.int .i64 (n : Int)) ∧ w = w')) (H2 : Hid (∀ w, Calls Tryz.prog 177 #[.int .i64 (n : Int)] w fun e w' => e = .returned (.bool false) ∧ w = w')) (hk : k + m ≤ s.size) (hs : s.size ≤ 1000000) (w : World) :
    Calls Tryz.prog 169 #[.string s, .int .i64 (k : Int), .int .i64 (m : Int)] w fun e w' => e = .returned (.tuple #[.int .i64 (n : Int), .bool false]) ∧ Below w.heap.size w w' := by
  go_enter Tryz.func169, Tryz.ntmps169
  go_wp2_with fail
  refine (H1.out _).mono ?_; rintro e w1 ⟨rfl, rfl⟩
  go_wp2_with fail
  refine wp_region_held_drew (S := fun _ => True) (by kernel_rfl) (trivial) (fun hHeld => ?_)
  refine tky 0 (some 23) (v := ?_) rfl (by kernel_rfl) (by kernel_rfl) (by kernel_rfl) (fun _ _ _ h => h) ?_ hHeld ?_
  rotate_left
  focus (intro w hSw; (try dsimp only at hSw); go_simp; (try with_reducible rfl); done)
  go_frame
  refine tky 1 (some 24) (v := ?_) rfl (by kernel_rfl) (by kernel_rfl) (by kernel_rfl) (fun _ _ _ h => h) ?_ hHeld ?_
  rotate_left
  focus (intro w hSw; (try dsimp only at hSw); go_simp; (try with_reducible rfl); done)
  go_frame
  refine rcons 2 rfl (by kernel_rfl) (fun K hK => ?_)
  go_simp
  (refine (H2.out _).mono ?_; rintro e w1 ⟨rfl, rfl⟩)
  (try dsimp only)
  refine hK.out _ _ (trivial) (fun hHeld2 => ?_)
  clear hK K hHeld
  have hHeld := hHeld2
  clear hHeld2
  (try go_frame)
  refine tky 3 (some 26) (v := ?_) rfl (by kernel_rfl) (by kernel_rfl) (by kernel_rfl) (fun _ _ _ h => h) ?_ hHeld ?_
  rotate_left
  focus (intro w hSw; (try dsimp only at hSw); go_simp; (try with_reducible rfl); done)
  go_frame
  refine tkn 4 (some 27) rfl (by kernel_rfl) (by kernel_rfl) (by kernel_rfl) (fun _ _ _ h => h) hHeld ?_
  go_frame
  refine tkn 5 (some 28) rfl (by kernel_rfl) (by kernel_rfl) (by kernel_rfl) (fun _ _ _ h => h) hHeld ?_
  go_frame
  refine tkn 6 (some 29) rfl (by kernel_rfl) (by kernel_rfl) (by kernel_rfl) (fun _ _ _ h => h) hHeld ?_
  go_frame
  refine tkn 7 (some 30) rfl (by kernel_rfl) (by kernel_rfl) (by kernel_rfl) (fun _ _ _ h => h) hHeld ?_
  go_frame
  refine tkn 8 (some 31) rfl (by kernel_rfl) (by kernel_rfl) (by kernel_rfl) (fun _ _ _ h => h) hHeld ?_
  go_frame
  refine tkn 9 (some 32) rfl (by kernel_rfl) (by kernel_rfl) (by kernel_rfl) (fun _ _ _ h => h) hHeld ?_
  go_frame
  refine tkn 10 (some 33) rfl (by kernel_rfl) (by kernel_rfl) (by kernel_rfl) (fun _ _ _ h => h) hHeld ?_
  go_frame
  refine tkn 11 (some 34) rfl (by kernel_rfl) (by kernel_rfl) (by kernel_rfl) (fun _ _ _ h => h) hHeld ?_
  go_frame
  refine tkn 12 (some 35) rfl (by kernel_rfl) (by kernel_rfl) (by kernel_rfl) (fun _ _ _ h => h) hHeld ?_
  go_frame
  refine tkn 13 (some 36) rfl (by kernel_rfl) (by kernel_rfl) (by kernel_rfl) (fun _ _ _ h => h) hHeld ?_
  go_frame
  refine tky 14 (some 37) (v := ?_) rfl (by kernel_rfl) (by kernel_rfl) (by kernel_rfl) (fun _ _ _ h => h) ?_ hHeld ?_
  rotate_left
  focus (intro w hSw; (try dsimp only at hSw); go_simp; (try with_reducible rfl); done)
  go_frame
  refine tky 15 (some 6) (v := ?_) rfl (by kernel_rfl) (by kernel_rfl) (by kernel_rfl) (fun _ _ _ h => h) ?_ hHeld ?_
  rotate_left
  focus (intro w hSw; (try dsimp only at hSw); go_simp; (try with_reducible rfl); done)
  go_frame
  refine tky 16 (some 7) (v := ?_) rfl (by kernel_rfl) (by kernel_rfl) (by kernel_rfl) (fun _ _ _ h => h) ?_ hHeld ?_
  rotate_left
  focus (intro w hSw; (try dsimp only at hSw); go_simp; (try with_reducible rfl); done)
  go_frame
  refine wpAnyH_done (by kernel_rfl) ?_ _
  go_wp2_with fail
  go_ret2
  exact ⟨rfl, (Below.refl _ _).drew⟩
set_option maxRecDepth 100000 in
set_option maxHeartbeats 2000000 in
theorem rone_yes (s : ByteArray) (k m n : Nat) (H1 : Hid (∀ w, Calls Tryz.prog 176 #[.string s, .int .i64 (k : Int), .int .i64 (m : Int)] w fun e w' => e = .returned (.int .i64 (n : Int)) ∧ w = w')) (H2 : Hid (∀ w, Calls Tryz.prog 177 #[.int .i64 (n : Int)] w fun e w' => e = .returned (.bool true) ∧ w = w'))
    (H3 : Hid (∀ w, Calls Tryz.prog 178 #[.int .i64 (n : Int)] w fun e w' => ∃ v, e = .returned v ∧ Own w.heap.size v (encN n) w' ∧ Below w.heap.size w w')) (hk : k + m ≤ s.size) (hs : s.size ≤ 1000000) (r : Bool) (hr : ((encN n) == (s.data.toList.drop k).take m) = r) (w : World) :
    Calls Tryz.prog 169 #[.string s, .int .i64 (k : Int), .int .i64 (m : Int)] w fun e w' => e = .returned (.tuple #[.int .i64 (n : Int), .bool r]) ∧ Below w.heap.size w w' := by
  have v1 : IntKind.i64.wrap ((k : Int) + m) = (k : Int) + m := IntWalk.i64_in _ (by omega)
  have t1 : ((k : Int) + m).toNat = k + m := by omega
  have b1 : (0 : Int) ≤ k := by omega
  have b2 : (k : Int) ≤ (k : Int) + m := by omega
  have b3 : (k : Int) + m ≤ s.size := by omega
  have HR := Lib.hid hr
  clear hr
  go_enter Tryz.func169, Tryz.ntmps169
  go_wp2_with fail
  refine (H1.out _).mono ?_; rintro e w1 ⟨rfl, rfl⟩
  go_wp2_with fail
  refine wp_region_held_drew (S := fun _ => True) (by kernel_rfl) (trivial) (fun hHeld => ?_)
  refine tky 0 (some 23) (v := ?_) rfl (by kernel_rfl) (by kernel_rfl) (by kernel_rfl) (fun _ _ _ h => h) ?_ hHeld ?_
  rotate_left
  focus (intro w hSw; (try dsimp only at hSw); go_simp; (try with_reducible rfl); done)
  go_frame
  refine tky 1 (some 24) (v := ?_) rfl (by kernel_rfl) (by kernel_rfl) (by kernel_rfl) (fun _ _ _ h => h) ?_ hHeld ?_
  rotate_left
  focus (intro w hSw; (try dsimp only at hSw); go_simp; (try with_reducible rfl); done)
  go_frame
  refine rcons 2 rfl (by kernel_rfl) (fun K hK => ?_)
  go_simp
  (refine (H2.out _).mono ?_; rintro e w1 ⟨rfl, rfl⟩)
  (try dsimp only)
  refine hK.out _ _ (trivial) (fun hHeld2 => ?_)
  clear hK K hHeld
  have hHeld := hHeld2
  clear hHeld2
  (try go_frame)
  refine tky 3 (some 26) (v := ?_) rfl (by kernel_rfl) (by kernel_rfl) (by kernel_rfl) (fun _ _ _ h => h) ?_ hHeld ?_
  rotate_left
  focus (intro w hSw; (try dsimp only at hSw); go_simp; (try with_reducible rfl); done)
  go_frame
  refine tky 4 (some 27) (v := ?_) rfl (by kernel_rfl) (by kernel_rfl) (by kernel_rfl) (fun _ _ _ h => h) ?_ hHeld ?_
  rotate_left
  focus (intro w hSw; (try dsimp only at hSw); go_simp; (try with_reducible rfl); done)
  go_frame
  refine tky 7 (some 30) (v := ?_) rfl (by kernel_rfl) (by kernel_rfl) (by kernel_rfl) (fun _ _ _ h => h) ?_ hHeld ?_
  rotate_left
  focus (intro w hSw; (try dsimp only at hSw); go_simp; (try with_reducible rfl); done)
  go_frame
  refine tky 8 (some 31) (v := ?_) rfl (by kernel_rfl) (by kernel_rfl) (by kernel_rfl) (fun _ _ _ h => h) ?_ hHeld ?_
  rotate_left
  focus (intro w hSw; (try dsimp only at hSw); go_simp; (try with_reducible rfl); done)
  go_frame
  refine tky 9 (some 32) (v := ?_) rfl (by kernel_rfl) (by kernel_rfl) (by kernel_rfl) (fun _ _ _ h => h) ?_ hHeld ?_
  rotate_left
  focus (intro w hSw; (try dsimp only at hSw); go_simp; (try with_reducible rfl); done)
  go_frame
  refine tky 10 (some 33) (v := ?_) rfl (by kernel_rfl) (by kernel_rfl) (by kernel_rfl) (fun _ _ _ h => h) ?_ hHeld ?_
  rotate_left
  focus (intro w hSw; (try dsimp only at hSw); go_simp; (try with_reducible rfl); done)
  go_frame
  refine tky 11 (some 34) (v := ?_) rfl (by kernel_rfl) (by kernel_rfl) (by kernel_rfl) (fun _ _ _ h => h) ?_ hHeld ?_
  rotate_left
  focus (intro w hSw; (try dsimp only at hSw); go_simp; (try with_reducible rfl); done)
  go_frame
  refine tky 12 (some 35) (v := ?_) rfl (by kernel_rfl) (by kernel_rfl) (by kernel_rfl) (fun _ _ _ h => h) ?_ hHeld ?_
  rotate_left
  focus (intro w hSw; (try dsimp only at hSw); go_simp; (try with_reducible rfl); done)
  go_frame
  refine rcons 5 rfl (by kernel_rfl) (fun K hK => ?_)
  go_simp
  (refine (H3.out _).mono ?_; rintro e w2 ⟨bv, rfl, hown, hb⟩; have HC := run_convert_own hown)
  (try dsimp only)
  refine hK.out _ _ (trivial) (fun hHeld2 => ?_)
  clear hK K hHeld
  have hHeld := hHeld2
  clear hHeld2
  (try go_frame)
  refine tky 15 (some 6) (v := ?_) rfl (by kernel_rfl) (by kernel_rfl) (by kernel_rfl) (fun _ _ _ h => h) ?_ hHeld ?_
  rotate_left
  focus (intro w hSw; (try dsimp only at hSw); go_simp; (try with_reducible rfl); done)
  go_frame
  refine rcons 6 rfl (by kernel_rfl) (fun K hK => ?_)
  go_simp
  refine hK.out _ _ (trivial) (fun hHeld2 => ?_)
  clear hK K hHeld
  have hHeld := hHeld2
  clear hHeld2
  (try go_frame)
  refine tky 13 (some 36) (v := ?_) rfl (by kernel_rfl) (by kernel_rfl) (by kernel_rfl) (fun _ _ _ h => h) ?_ hHeld ?_
  rotate_left
  focus (intro w hSw; (try dsimp only at hSw); go_simp; (try with_reducible rfl); done)
  go_frame
  refine tky 14 (some 37) (v := ?_) rfl (by kernel_rfl) (by kernel_rfl) (by kernel_rfl) (fun _ _ _ h => h) ?_ hHeld ?_
  rotate_left
  focus (intro w hSw; (try dsimp only at hSw); go_simp; (try with_reducible rfl); done)
  go_frame
  refine tky 16 (some 7) (v := ?_) rfl (by kernel_rfl) (by kernel_rfl) (by kernel_rfl) (fun _ _ _ h => h) ?_ hHeld ?_
  rotate_left
  focus (intro w hSw; (try dsimp only at hSw); go_simp; (try with_reducible rfl); done)
  go_frame
  refine wpAnyH_done (by kernel_rfl) ?_ _
  have hbw : Below w.heap.size w w2 := Below.trans (Below.refl _ _).drew hb
  clear hb HC hown hHeld
  go_wp2_with fail
  go_ret2
  exact ⟨congrArg (fun b : Bool => Ending.returned (Value.tuple #[.int .i64 (n : Int), .bool b])) (by rw [ext_list]; exact HR.out), hbw⟩
/-- What One answers at a place. -/
def oneV (l : List UInt8) (m : Nat) : Value := if m ≤ l.length then .tuple #[.int .i64 (numN (l.take m) : Nat), .bool (oneB l m)] else .tuple #[.int .i64 0, .bool false]
theorem num_le (l : List UInt8) : numN l ≤ 100000000 := by
  match l with
  | [] => exact Nat.zero_le _
  | [a] => simp only [numN]; have := a.toNat_lt; omega
  | [a, b] => simp only [numN]; omega
  | [a, b, c] => simp only [numN]; omega
  | [a, b, c, d] => simp only [numN]; omega
  | _ :: _ :: _ :: _ :: _ :: _ => exact Nat.zero_le _
set_option maxRecDepth 100000 in
theorem rone_far (s : ByteArray) (k m : Nat) (hk : s.size < k + m) (hk2 : k ≤ 1000000) (hm : m ≤ 4) (hs : s.size ≤ 1000000) (w : World) :
    Calls Tryz.prog 169 #[.string s, .int .i64 (k : Int), .int .i64 (m : Int)] w fun e w' => e = .returned (.tuple #[.int .i64 0, .bool false]) ∧ Below w.heap.size w w' := by
  go_enter Tryz.func169, Tryz.ntmps169
  go_wp2_with fail
  go_ret2
  exact ⟨rfl, Below.refl _ _⟩
theorem rone_any (s : ByteArray) (k m : Nat) (hk : k ≤ s.size) (h1 : 1 ≤ m) (hm : m ≤ 4) (hs : s.size ≤ 1000000) (w : World) :
    Calls Tryz.prog 169 #[.string s, .int .i64 (k : Int), .int .i64 (m : Int)] w fun e w' => e = .returned (oneV (s.data.toList.drop k) m) ∧ Below w.heap.size w w' := by
  have hl : (s.data.toList.drop k).length = s.size - k := by rw [List.length_drop, Array.length_toList]; rfl
  unfold oneV
  by_cases hc : k + m ≤ s.size
  · rw [if_pos (by omega)]
    have H1 : ∀ w, Calls Tryz.prog 176 #[.string s, .int .i64 (k : Int), .int .i64 (m : Int)] w fun e w' => e = .returned (.int .i64 (numN ((s.data.toList.drop k).take m) : Nat)) ∧ w = w' := by
      intro w
      rcases (show m = 1 ∨ m = 2 ∨ m = 3 ∨ m = 4 by omega) with rfl | rfl | rfl | rfl
      · exact rnumber1 s k hc hs w
      · exact rnumber2 s k hc hs w
      · exact rnumber3 s k hc hs w
      · exact rnumber4 s k hc hs w
    have hn := num_le ((s.data.toList.drop k).take m)
    unfold oneB
    rw [decide_eq_true (by omega), Bool.true_and]
    generalize hN : numN ((s.data.toList.drop k).take m) = n at *
    have H2 := fun w => ris_any n hn w
    cases hp : isPt n with
    | false =>
      rw [hp] at H2
      exact rone_no s k m n (Lib.hid H1) (Lib.hid H2) hc hs w
    | true =>
      rw [hp] at H2
      exact rone_yes s k m n (Lib.hid H1) (Lib.hid H2) (Lib.hid fun w => rbytes_any n hp w) hc hs _ rfl w
  · rw [if_neg (by omega)]
    exact rone_far s k m (by omega) (by omega) hm hs w
set_option maxRecDepth 100000 in
set_option maxHeartbeats 2000000 in
theorem rnext_1 (s : ByteArray) (k : Nat) (n1 : Int) (H1 : Hid (∀ w, Calls Tryz.prog 169 #[.string s, .int .i64 (k : Int), .int .i64 1] w fun e w' => e = .returned (.tuple #[.int .i64 n1, .bool true]) ∧ Below w.heap.size w w')) (hk : k < s.size) (hs : s.size ≤ 1000000) (w : World) :
    Calls Tryz.prog 157 #[.string s, .int .i64 (k : Int)] w fun e w' => e = .returned (.tuple #[.int .i64 n1, .int .i64 1, .int .i64 0]) ∧ Below w.heap.size w w' := by
  have HW0 := Lib.hid (Below.refl w.heap.size w)
  go_enter Tryz.func157, Tryz.ntmps157
  go_wp2_with fail
  refine wp_loop_rounds 5 ?_
  rw [rounds_succ]
  go_wp2_with fail
  refine (H1.out _).mono ?_; rintro e w1 ⟨rfl, hb⟩
  have HW1 := Lib.hid (HW0.out.trans (hb.mono HW0.out.size))
  clear hb
  go_wp2_with fail
  go_ret3
  exact ⟨rfl, HW1.out⟩
set_option maxRecDepth 100000 in
set_option maxHeartbeats 2000000 in
theorem rnext_2 (s : ByteArray) (k : Nat) (n1 n2 : Int) (H1 : Hid (∀ w, Calls Tryz.prog 169 #[.string s, .int .i64 (k : Int), .int .i64 1] w fun e w' => e = .returned (.tuple #[.int .i64 n1, .bool false]) ∧ Below w.heap.size w w')) (H2 : Hid (∀ w, Calls Tryz.prog 169 #[.string s, .int .i64 (k : Int), .int .i64 2] w fun e w' => e = .returned (.tuple #[.int .i64 n2, .bool true]) ∧ Below w.heap.size w w')) (hk : k < s.size) (hs : s.size ≤ 1000000) (w : World) :
    Calls Tryz.prog 157 #[.string s, .int .i64 (k : Int)] w fun e w' => e = .returned (.tuple #[.int .i64 n2, .int .i64 2, .int .i64 0]) ∧ Below w.heap.size w w' := by
  have HW0 := Lib.hid (Below.refl w.heap.size w)
  go_enter Tryz.func157, Tryz.ntmps157
  go_wp2_with fail
  refine wp_loop_rounds 5 ?_
  rw [rounds_succ]
  go_wp2_with fail
  refine (H1.out _).mono ?_; rintro e w1 ⟨rfl, hb⟩
  have HW1 := Lib.hid (HW0.out.trans (hb.mono HW0.out.size))
  clear hb
  go_wp2_with fail
  rw [rounds_succ]
  go_wp2_with fail
  refine (H2.out _).mono ?_; rintro e w2 ⟨rfl, hb⟩
  have HW2 := Lib.hid (HW1.out.trans (hb.mono HW1.out.size))
  clear hb
  go_wp2_with fail
  go_ret3
  exact ⟨rfl, HW2.out⟩
set_option maxRecDepth 100000 in
set_option maxHeartbeats 2000000 in
theorem rnext_3 (s : ByteArray) (k : Nat) (n1 n2 n3 : Int) (H1 : Hid (∀ w, Calls Tryz.prog 169 #[.string s, .int .i64 (k : Int), .int .i64 1] w fun e w' => e = .returned (.tuple #[.int .i64 n1, .bool false]) ∧ Below w.heap.size w w')) (H2 : Hid (∀ w, Calls Tryz.prog 169 #[.string s, .int .i64 (k : Int), .int .i64 2] w fun e w' => e = .returned (.tuple #[.int .i64 n2, .bool false]) ∧ Below w.heap.size w w')) (H3 : Hid (∀ w, Calls Tryz.prog 169 #[.string s, .int .i64 (k : Int), .int .i64 3] w fun e w' => e = .returned (.tuple #[.int .i64 n3, .bool true]) ∧ Below w.heap.size w w')) (hk : k < s.size) (hs : s.size ≤ 1000000) (w : World) :
    Calls Tryz.prog 157 #[.string s, .int .i64 (k : Int)] w fun e w' => e = .returned (.tuple #[.int .i64 n3, .int .i64 3, .int .i64 0]) ∧ Below w.heap.size w w' := by
  have HW0 := Lib.hid (Below.refl w.heap.size w)
  go_enter Tryz.func157, Tryz.ntmps157
  go_wp2_with fail
  refine wp_loop_rounds 5 ?_
  rw [rounds_succ]
  go_wp2_with fail
  refine (H1.out _).mono ?_; rintro e w1 ⟨rfl, hb⟩
  have HW1 := Lib.hid (HW0.out.trans (hb.mono HW0.out.size))
  clear hb
  go_wp2_with fail
  rw [rounds_succ]
  go_wp2_with fail
  refine (H2.out _).mono ?_; rintro e w2 ⟨rfl, hb⟩
  have HW2 := Lib.hid (HW1.out.trans (hb.mono HW1.out.size))
  clear hb
  go_wp2_with fail
  rw [rounds_succ]
  go_wp2_with fail
  refine (H3.out _).mono ?_; rintro e w3 ⟨rfl, hb⟩
  have HW3 := Lib.hid (HW2.out.trans (hb.mono HW2.out.size))
  clear hb
  go_wp2_with fail
  go_ret3
  exact ⟨rfl, HW3.out⟩
set_option maxRecDepth 100000 in
set_option maxHeartbeats 2000000 in
theorem rnext_4 (s : ByteArray) (k : Nat) (n1 n2 n3 n4 : Int) (H1 : Hid (∀ w, Calls Tryz.prog 169 #[.string s, .int .i64 (k : Int), .int .i64 1] w fun e w' => e = .returned (.tuple #[.int .i64 n1, .bool false]) ∧ Below w.heap.size w w')) (H2 : Hid (∀ w, Calls Tryz.prog 169 #[.string s, .int .i64 (k : Int), .int .i64 2] w fun e w' => e = .returned (.tuple #[.int .i64 n2, .bool false]) ∧ Below w.heap.size w w')) (H3 : Hid (∀ w, Calls Tryz.prog 169 #[.string s, .int .i64 (k : Int), .int .i64 3] w fun e w' => e = .returned (.tuple #[.int .i64 n3, .bool false]) ∧ Below w.heap.size w w')) (H4 : Hid (∀ w, Calls Tryz.prog 169 #[.string s, .int .i64 (k : Int), .int .i64 4] w fun e w' => e = .returned (.tuple #[.int .i64 n4, .bool true]) ∧ Below w.heap.size w w')) (hk : k < s.size) (hs : s.size ≤ 1000000) (w : World) :
    Calls Tryz.prog 157 #[.string s, .int .i64 (k : Int)] w fun e w' => e = .returned (.tuple #[.int .i64 n4, .int .i64 4, .int .i64 0]) ∧ Below w.heap.size w w' := by
  have HW0 := Lib.hid (Below.refl w.heap.size w)
  go_enter Tryz.func157, Tryz.ntmps157
  go_wp2_with fail
  refine wp_loop_rounds 5 ?_
  rw [rounds_succ]
  go_wp2_with fail
  refine (H1.out _).mono ?_; rintro e w1 ⟨rfl, hb⟩
  have HW1 := Lib.hid (HW0.out.trans (hb.mono HW0.out.size))
  clear hb
  go_wp2_with fail
  rw [rounds_succ]
  go_wp2_with fail
  refine (H2.out _).mono ?_; rintro e w2 ⟨rfl, hb⟩
  have HW2 := Lib.hid (HW1.out.trans (hb.mono HW1.out.size))
  clear hb
  go_wp2_with fail
  rw [rounds_succ]
  go_wp2_with fail
  refine (H3.out _).mono ?_; rintro e w3 ⟨rfl, hb⟩
  have HW3 := Lib.hid (HW2.out.trans (hb.mono HW2.out.size))
  clear hb
  go_wp2_with fail
  rw [rounds_succ]
  go_wp2_with fail
  refine (H4.out _).mono ?_; rintro e w4 ⟨rfl, hb⟩
  have HW4 := Lib.hid (HW3.out.trans (hb.mono HW3.out.size))
  clear hb
  go_wp2_with fail
  go_ret3
  exact ⟨rfl, HW4.out⟩
set_option maxRecDepth 100000 in
set_option maxHeartbeats 2000000 in
theorem rnext_0 (s : ByteArray) (k : Nat) (n1 n2 n3 n4 : Int) (H1 : Hid (∀ w, Calls Tryz.prog 169 #[.string s, .int .i64 (k : Int), .int .i64 1] w fun e w' => e = .returned (.tuple #[.int .i64 n1, .bool false]) ∧ Below w.heap.size w w')) (H2 : Hid (∀ w, Calls Tryz.prog 169 #[.string s, .int .i64 (k : Int), .int .i64 2] w fun e w' => e = .returned (.tuple #[.int .i64 n2, .bool false]) ∧ Below w.heap.size w w')) (H3 : Hid (∀ w, Calls Tryz.prog 169 #[.string s, .int .i64 (k : Int), .int .i64 3] w fun e w' => e = .returned (.tuple #[.int .i64 n3, .bool false]) ∧ Below w.heap.size w w')) (H4 : Hid (∀ w, Calls Tryz.prog 169 #[.string s, .int .i64 (k : Int), .int .i64 4] w fun e w' => e = .returned (.tuple #[.int .i64 n4, .bool false]) ∧ Below w.heap.size w w')) (hk : k < s.size) (hs : s.size ≤ 1000000) (w : World) :
    Calls Tryz.prog 157 #[.string s, .int .i64 (k : Int)] w fun e w' => e = .returned (.tuple #[.int .i64 0, .int .i64 0, .int .i64 10]) ∧ Below w.heap.size w w' := by
  have HW0 := Lib.hid (Below.refl w.heap.size w)
  go_enter Tryz.func157, Tryz.ntmps157
  go_wp2_with fail
  refine wp_loop_rounds 5 ?_
  rw [rounds_succ]
  go_wp2_with fail
  refine (H1.out _).mono ?_; rintro e w1 ⟨rfl, hb⟩
  have HW1 := Lib.hid (HW0.out.trans (hb.mono HW0.out.size))
  clear hb
  go_wp2_with fail
  rw [rounds_succ]
  go_wp2_with fail
  refine (H2.out _).mono ?_; rintro e w2 ⟨rfl, hb⟩
  have HW2 := Lib.hid (HW1.out.trans (hb.mono HW1.out.size))
  clear hb
  go_wp2_with fail
  rw [rounds_succ]
  go_wp2_with fail
  refine (H3.out _).mono ?_; rintro e w3 ⟨rfl, hb⟩
  have HW3 := Lib.hid (HW2.out.trans (hb.mono HW2.out.size))
  clear hb
  go_wp2_with fail
  rw [rounds_succ]
  go_wp2_with fail
  refine (H4.out _).mono ?_; rintro e w4 ⟨rfl, hb⟩
  have HW4 := Lib.hid (HW3.out.trans (hb.mono HW3.out.size))
  clear hb
  go_wp2_with fail
  rw [rounds_succ]
  go_wp2_with fail
  go_ret3
  exact ⟨rfl, HW4.out⟩
/-- What Next answers at a place. -/
def nextV (l : List UInt8) : Value := if wellB l then .tuple #[.int .i64 ((decodeL l).1 : Nat), .int .i64 ((decodeL l).2 : Nat), .int .i64 0] else .tuple #[.int .i64 0, .int .i64 0, .int .i64 10]
theorem rnext_any (s : ByteArray) (k : Nat) (hk : k < s.size) (hs : s.size ≤ 1000000) (w : World) :
    Calls Tryz.prog 157 #[.string s, .int .i64 (k : Int)] w fun e w' => e = .returned (nextV (s.data.toList.drop k)) ∧ Below w.heap.size w w' := by
  have hl : (s.data.toList.drop k).length = s.size - k := by rw [List.length_drop, Array.length_toList]; rfl
  have hne : s.data.toList.drop k ≠ [] := by intro e; rw [e] at hl; simp at hl; omega
  have O := fun (m : Nat) (h1 : 1 ≤ m) (h4 : m ≤ 4) (w : World) => rone_any s k m (by omega) h1 h4 hs w
  have hb := one_iff (s.data.toList.drop k) hne
  generalize s.data.toList.drop k = l at *
  have key : ∀ m, oneV l m = .tuple #[.int .i64 (if m ≤ l.length then ((numN (l.take m) : Nat) : Int) else 0), .bool (oneB l m)] := by
    intro m
    unfold oneV
    by_cases h : m ≤ l.length
    · rw [if_pos h, if_pos h]
    · rw [if_neg h, if_neg h]
      unfold oneB
      rw [decide_eq_false h]; rfl
  have O1 := O 1 (by omega) (by omega)
  have O2 := O 2 (by omega) (by omega)
  have O3 := O 3 (by omega) (by omega)
  have O4 := O 4 (by omega) (by omega)
  rw [key, hb 1 (by omega) (by omega)] at O1
  rw [key, hb 2 (by omega) (by omega)] at O2
  rw [key, hb 3 (by omega) (by omega)] at O3
  rw [key, hb 4 (by omega) (by omega)] at O4
  unfold nextV
  cases hw : wellB l with
  | false =>
    rw [hw] at O1 O2 O3 O4
    exact rnext_0 s k _ _ _ _ (Lib.hid O1) (Lib.hid O2) (Lib.hid O3) (Lib.hid O4) hk hs w
  | true =>
    rw [hw] at O1 O2 O3 O4 hb
    have hv : ¬ ((decodeL l).1 = 65533 ∧ (decodeL l).2 = 1) := by
      simp only [wellB, Bool.not_eq_true', decide_eq_false_iff_not] at hw
      exact hw
    obtain ⟨g1, g2, g3, g4⟩ := one_decode l hne hv
    have hlen : (decodeL l).2 ≤ l.length := by
      unfold oneB at g1
      simp only [Bool.and_eq_true, decide_eq_true_eq] at g1
      exact g1.1
    have hnum : (if (decodeL l).2 ≤ l.length then ((numN (l.take (decodeL l).2) : Nat) : Int) else 0) = ((decodeL l).1 : Nat) := by rw [if_pos hlen, g2]
    generalize (decodeL l).2 = j at *
    generalize (decodeL l).1 = p at *
    rcases (show j = 1 ∨ j = 2 ∨ j = 3 ∨ j = 4 by omega) with rfl | rfl | rfl | rfl
    · rw [hnum] at O1
      exact rnext_1 s k _ (Lib.hid O1) hk hs w
    · rw [hnum] at O2
      exact rnext_2 s k _ _ (Lib.hid O1) (Lib.hid O2) hk hs w
    · rw [hnum] at O3
      exact rnext_3 s k _ _ _ (Lib.hid O1) (Lib.hid O2) (Lib.hid O3) hk hs w
    · rw [hnum] at O4
      exact rnext_4 s k _ _ _ _ (Lib.hid O1) (Lib.hid O2) (Lib.hid O3) (Lib.hid O4) hk hs w
end Go.Proofs.YtgaknbnhmoddcaaGreatDoor
namespace Go.Proofs.YtgaknbnhmoddcaaGreatDoor
open Go.Lib
/-- What is left of a text is a text, and no longer. -/
def Cut (l t : List UInt8) : Prop := t.length ≤ l.length ∧ (validD l = true → validD t = true)
theorem Cut.refl (l : List UInt8) : Cut l l := ⟨Nat.le_refl _, id⟩
theorem Cut.trans {l t u : List UInt8} (h : Cut l t) (h' : Cut t u) : Cut l u := ⟨Nat.le_trans h'.1 h.1, fun x => h'.2 (h.2 x)⟩
theorem decode_ascii (c : UInt8) (l : List UInt8) (h : c.toNat < 128) : decodeL (c :: l) = (c.toNat, 1) := by
  have ho : oneB (c :: l) 1 = true := by
    unfold oneB
    rw [decide_eq_true (by simp), List.take_succ_cons, List.take_zero]
    simp only [Bool.true_and, Bool.and_eq_true, beq_iff_eq, numN]
    refine ⟨by simp only [isPt, decide_eq_true_eq]; omega, ?_⟩
    unfold encN
    rw [if_pos h, toN rfl]
  have := decode_one _ 1 ho
  rw [this]; rfl
theorem valid_cons (c : UInt8) (l : List UInt8) (h : c.toNat < 128) : validD (c :: l) = validD l := by
  rw [valid_step _ (by simp)]
  unfold wellB
  rw [decode_ascii c l h]
  rw [decide_eq_false (by intro h1; have := h1.1; simp at this; omega)]
  rfl
theorem cut_cons (c : UInt8) (l : List UInt8) (h : c.toNat < 128) : Cut (c :: l) l := ⟨by simp, fun x => by rw [valid_cons c l h] at x; exact x⟩
theorem cut_drop : ∀ (n : Nat) (l : List UInt8), (∀ c ∈ l.take n, c.toNat < 128) → Cut l (l.drop n)
  | 0, l, _ => by rw [List.drop_zero]; exact Cut.refl _
  | n + 1, [], _ => by rw [List.drop_nil]; exact Cut.refl _
  | n + 1, c :: l, h => by
    rw [List.drop_succ_cons]
    exact (cut_cons c l (h c (by simp))).trans (cut_drop n l fun x hx => h x (by simp [hx]))
theorem cut_while (p : UInt8 → Bool) (hp : ∀ c, p c = true → c.toNat < 128) : ∀ l : List UInt8, Cut l (l.dropWhile p)
  | [] => Cut.refl _
  | c :: l => by
    rw [List.dropWhile_cons]
    by_cases h : p c = true
    · rw [if_pos h]; exact (cut_cons c l (hp c h)).trans (cut_while p hp l)
    · rw [if_neg h]; exact Cut.refl _
theorem blank_ascii (c : UInt8) (h : blankJ c = true) : c.toNat < 128 := by
  unfold blankJ at h
  simp only [Bool.or_eq_true, beq_iff_eq] at h
  rcases h with ((h | h) | h) | h <;> (subst h; decide)
theorem cut_bl (l : List UInt8) : Cut l (blJ l) := cut_while _ blank_ascii l
theorem cut_tk (what l t : List UInt8) (hw : ∀ c ∈ what, c.toNat < 128) (h : tkJ what l = some t) : Cut l t ∧ t.length + what.length = l.length := by
  unfold tkJ at h
  split at h
  · rename_i hp
    injection h with h
    obtain ⟨u, rfl⟩ := List.isPrefixOf_iff_prefix.1 hp
    rw [List.drop_left] at h
    subst h
    refine ⟨?_, by rw [List.length_append]; omega⟩
    have := cut_drop what.length (what ++ u) (by rw [List.take_left]; exact hw)
    rw [List.drop_left] at this
    exact this
  · cases h
end Go.Proofs.YtgaknbnhmoddcaaGreatDoor
namespace Go.Proofs.YtgaknbnhmoddcaaGreatDoor
open Go.RowKit Go.Lib
theorem int_info : (Tryz.prog.info? 3).map (fun i => (i.zero, i.size, i.bytes)) = some (some (.int .i64 0), 1, 8) := by kernel_rfl
def natCells (l : List Nat) : List Value := l.map fun (n : Nat) => Value.int .i64 (n : Int)
/-- A slice of numbers of the call's own. -/
def OwnI (B : Nat) (v : Value) (l : List Nat) (W : World) : Prop := W.ownsRow B 3 1 v l.length (natCells l)
theorem OwnI.nil (B : Nat) (W : World) : OwnI B (.slice none 0 0) [] W := World.ownsRow_nil W B 3 1
theorem OwnI.below {B : Nat} {v : Value} {l : List Nat} {w w' : World} (h : OwnI B v l w) (hb : Below w.heap.size w w') : OwnI B v l w' := by
  obtain ⟨h1, h2⟩ := h
  refine ⟨h1, ?_⟩
  rcases h2 with h2 | ⟨g, cap, cur, hv, hB, hg, hrest⟩
  · exact Or.inl h2
  · have hlt : g < w.heap.size := (Array.getElem?_eq_some_iff.1 hg).1
    exact Or.inr ⟨g, cap, cur, hv, hB, (hb.block g hlt).trans hg, hrest⟩
theorem OwnI.alloc {B : Nat} {v : Value} {l : List Nat} {w : World} (h : OwnI B v l w) (o : Obj) : OwnI B v l (w.alloc o) := World.ownsRow.alloc h o
theorem OwnI.lt {B : Nat} {v : Value} {l : List Nat} {w : World} (h : OwnI B v l w) : ∀ k, v.ownBlock = some k → B ≤ k := fun k hk => (World.ownsRow.lt h k hk).1
theorem wpList_pushI {ops : Array Oper} {rest : List Oper} {o : Oper} {a : Act} {Q : Exit → Act → World → Prop} {w : World} (hgd : o.guard = none) (s x : Operand)
    (ho : o.op = .call { callee := .builtin .append, args := #[s, x], argTypes := #[131, 131] }) (B : Nat) (v : Value) (l : List Nat) (hs : a.eval s = v) (hown : OwnI B v l w)
    (ad : Addr) (c : Nat) (n : Nat) (hx : a.eval x = .slice (some ad) 1 c) (hnew : w.cell? ad = some (.int .i64 (n : Int))) (hlen : l.length + 1 ≤ 1000000) (hB : B ≤ w.heap.size)
    (h : ∀ v' w', OwnI B v' (l ++ [n]) w' → w.grownBy w' v.ownBlock → wpList Tryz.prog ops Q rest (a.put o.dst v') w') : wpList Tryz.prog ops Q (o :: rest) a w := by
  obtain ⟨i0, hi, hz0, hz1, hz2⟩ := info_parts int_info
  refine wpList_append_own w hgd s x 131 ho B 3 i0 (.int .i64 0) 1 8 Tryz.underlying131 hi hz0 hz1 hz2 rfl (by decide) v l.length (natCells l) hs hown ad 1 c [.int .i64 (n : Int)] hx rfl ?_ ?_ (by unfold maxLen; omega) (by omega) hB ?_
  · intro j u hj
    match j, hj with
    | 0, hj =>
      have e : u = .int .i64 (n : Int) := (Option.some.inj hj).symm
      rw [e]; exact hnew
    | j + 1, hj => cases hj
  · intro u hu; rw [List.mem_singleton] at hu; rw [hu]; rfl
  · intro v' w' h1 h2 _
    refine h v' w' ?_ h2
    unfold OwnI natCells at *
    rw [List.length_append, List.map_append]
    exact h1
theorem new_cell0 (W : World) (T : TypeId) (v : Value) : (W.alloc (.cells #[v] T)).cell? ⟨W.heap.size, 0, none⟩ = some v := by
  rw [Lib.cell_of_heap (heap_alloc_new W _)]; rfl
theorem well_step (l : List UInt8) (hne : l ≠ []) (hw : wellB l = true) : 1 ≤ (decodeL l).2 ∧ (decodeL l).2 ≤ 4 ∧ (decodeL l).2 ≤ l.length := by
  have hv : ¬ ((decodeL l).1 = 65533 ∧ (decodeL l).2 = 1) := by
    simp only [wellB, Bool.not_eq_true', decide_eq_false_iff_not] at hw
    exact hw
  obtain ⟨g1, g2, g3, g4⟩ := one_decode l hne hv
  refine ⟨g3, g4, ?_⟩
  unfold oneB at g1
  simp only [Bool.and_eq_true, decide_eq_true_eq] at g1
  exact g1.1
set_option maxRecDepth 100000 in
set_option maxHeartbeats 2000000 in
theorem rpoints_any (s : ByteArray) (hs : s.size ≤ 100000) (w : World) :
    Calls Tryz.prog 139 #[.string s] w fun e w' => ∃ v, e = .returned (.tuple #[v, .bool (validD s.data.toList)]) ∧ (validD s.data.toList = true → OwnI w.heap.size v (pts s.data.toList) w') ∧ Below w.heap.size w w' := by
  obtain ⟨r, hr⟩ : ∃ r, validD s.data.toList = r := ⟨_, rfl⟩
  obtain ⟨P, hP⟩ : ∃ P, pts s.data.toList = P := ⟨_, rfl⟩
  have HR : Hid (validD (s.data.toList.drop 0) = r) := Lib.hid (by rw [List.drop_zero]; exact hr)
  have HP : Hid ([] ++ pts (s.data.toList.drop 0) = P) := Lib.hid (by rw [List.drop_zero]; exact hP)
  rw [hr, hP]
  clear hr hP
  go_enter Tryz.func139, Tryz.ntmps139
  go_wp2_with fail
  go_loopg [4, 5] s.size (fun k u v wr => ∃ (j : Nat) (out : List Nat) (ov : Value), ov = u ∧ v = .int .i64 j ∧ k + j = s.size ∧ out.length ≤ j ∧ Hid (OwnI w.heap.size ov out wr) ∧ Hid (validD (s.data.toList.drop j) = r) ∧ Hid (out ++ pts (s.data.toList.drop j) = P) ∧ Below w.heap.size w wr)
  case atStart => exact ⟨0, [], _, rfl, rfl, by omega, by simp, Lib.hid (OwnI.nil _ _), HR, HP, Below.refl _ _⟩
  case round =>
    rename World => wo
    obtain ⟨j, out, ov, rfl, rfl, hk, hout, HO, HJ, HQ, hbw⟩ := hrel
    have hsz := hbw.size
    by_cases hlt : j < s.size
    · have H1 := Lib.hid (fun w => rnext_any s j hlt (by omega) w)
      have hl : (s.data.toList.drop j).length = s.size - j := by rw [List.length_drop, Array.length_toList]; rfl
      have hne : s.data.toList.drop j ≠ [] := by intro e; rw [e] at hl; simp at hl; omega
      unfold nextV at H1
      cases hw : wellB (s.data.toList.drop j) with
      | false =>
        rw [hw] at H1
        simp only [Bool.false_eq_true, if_false] at H1
        have HF : Hid (false = r) := Lib.hid (by rw [← HJ.out, valid_step _ hne, hw]; rfl)
        clear hw hne hl HJ HQ
        go_wp2_with fail
        refine (H1.out _).mono ?_; rintro e w1 ⟨rfl, hb⟩
        have hfin := hbw.trans (hb.mono hsz)
        clear hb
        go_wp2_with fail
        go_ret2
        exact ⟨_, congrArg (fun b : Bool => Ending.returned (Value.tuple #[.slice none 0 0, .bool b])) HF.out, fun h => absurd (HF.out.trans h) (by decide), hfin⟩
      | true =>
        obtain ⟨g1, g2, g3⟩ := well_step _ hne hw
        rw [hw] at H1
        simp only [if_true] at H1
        have HJ2 : Hid (validD (s.data.toList.drop (j + (decodeL (s.data.toList.drop j)).2)) = r) := Lib.hid (by
          have := HJ.out
          rw [valid_step _ hne, hw, Bool.true_and, List.drop_drop] at this
          exact this)
        have HQ2 : Hid ((out ++ [(decodeL (s.data.toList.drop j)).1]) ++ pts (s.data.toList.drop (j + (decodeL (s.data.toList.drop j)).2)) = P) := Lib.hid (by
          have := HQ.out
          rw [pts_step _ hne, List.drop_drop] at this
          rw [List.append_assoc]; exact this)
        rw [hl] at g3
        clear hw hne hl HJ HQ
        generalize (decodeL (s.data.toList.drop j)).2 = m at *
        generalize (decodeL (s.data.toList.drop j)).1 = p at *
        obtain ⟨g, rfl⟩ : ∃ g, gk = g + m := ⟨gk - m, by omega⟩
        go_wp2_with fail
        refine (H1.out _).mono ?_; rintro e w1 ⟨rfl, hb⟩
        have HO1 := Lib.hid (HO.out.below hb)
        have hbw1 := hbw.trans (hb.mono hsz)
        have hsz1 := hbw1.size
        clear hb HO hbw hsz
        go_wp2_with (at_builtin; refine wpList_pushI rfl _ _ rfl w.heap.size ov out rfl (HO1.out.alloc _) ⟨w1.heap.size, 0, none⟩ 1 p rfl (new_cell0 w1 _ _) ?c1 ?c2 ?_)
        case c1 => omega
        case c2 => simp; omega
        intro v' w3 hown' hgrow
        have hbw3 : Below w.heap.size w w3 := (hbw1.alloc hsz1 _).grown hgrow (by simp; omega) HO1.out.lt
        have HO3 := Lib.hid hown'
        clear hown' hgrow HO1 hbw1
        go_wp2_with fail
        go_roundg g
        case measure => omega
        case rel => exact ⟨j + m, out ++ [p], _, rfl, by go_num, by omega, by simp; omega, HO3, HJ2, HQ2, hbw3⟩
    · have hd : s.data.toList.drop j = [] := List.drop_of_length_le (by rw [Array.length_toList]; exact Nat.le_of_not_lt hlt)
      have HF : Hid (true = r) := Lib.hid (by rw [← HJ.out, hd]; rfl)
      have HO2 : Hid (OwnI w.heap.size ov P wo) := Lib.hid (by
        have := HQ.out
        rw [hd, pts_nil, List.append_nil] at this
        rw [← this]; exact HO.out)
      clear hd HJ HQ HO
      go_wp2_with fail
      go_ret2
      exact ⟨_, congrArg (fun b : Bool => Ending.returned (Value.tuple #[ov, .bool b])) HF.out, fun _ => HO2.out, hbw⟩
/-- What a text's check answers. -/
def chkE (l : List UInt8) : Int := if 16384 < l.length then 4 else if validD l then 0 else 10
end Go.Proofs.YtgaknbnhmoddcaaGreatDoor
namespace Go.Proofs.YtgaknbnhmoddcaaGreatDoor
open Go.RowKit
/-- A slice that reads as numbers. -/
def IntSl (v : Value) (l : List Nat) (W : World) : Prop := (∃ a cap, v = .slice a 0 cap ∧ l = []) ∨ ∃ b off cap, v = .slice (some ⟨b, off, none⟩) l.length cap ∧ ∀ (j : Nat) (x : Nat), l[j]? = some x → W.cell? ⟨b, off + j, none⟩ = some (.int .i64 (x : Int))
theorem IntSl.below {v : Value} {l : List Nat} {w w' : World} (h : IntSl v l w) (hb : Below w.heap.size w w') : IntSl v l w' := by
  rcases h with h | ⟨b, off, cap, h1, h2⟩
  · exact Or.inl h
  · exact Or.inr ⟨b, off, cap, h1, fun j x hj => (hb.cell (p := ⟨b, _, none⟩) (lt_of_cell (h2 j x hj))).trans (h2 j x hj)⟩
theorem OwnI.sl {B : Nat} {v : Value} {l : List Nat} {w : World} (h : OwnI B v l w) : IntSl v l w := by
  obtain ⟨h1, h2⟩ := h
  rcases h2 with ⟨h2, h3⟩ | ⟨g, cap, cur, hv, hB, hg, hn, hc, hcs, ht⟩
  · exact Or.inl ⟨_, _, h2, List.eq_nil_of_length_eq_zero h3⟩
  · refine Or.inr ⟨g, 0, cap, hv, ?_⟩
    intro j x hj
    rw [Nat.mul_one] at ht
    have hjl : j < l.length := (List.getElem?_eq_some_iff.1 hj).1
    have e : cur.toList[j]? = some (.int .i64 (x : Int)) := by
      have : (cur.toList.take l.length)[j]? = some (.int .i64 (x : Int)) := by rw [ht]; unfold natCells; rw [List.getElem?_map, hj]; rfl
      rw [List.getElem?_take] at this
      simpa [hjl] using this
    rw [Nat.zero_add]
    refine (Lib.cell_of_heap hg j).trans ?_
    simpa using e
theorem OwnI.rk {B r : Nat} {v : Value} {l : List Nat} {w w' : World} (h : OwnI B v l w) (hk : RK r w w') (hr : r < B) : OwnI B v l w' := by
  obtain ⟨h1, h2⟩ := h
  refine ⟨h1, ?_⟩
  rcases h2 with h2 | ⟨g, cap, cur, hv, hB, hg, hrest⟩
  · exact Or.inl h2
  · exact Or.inr ⟨g, cap, cur, hv, hB, hk.2 g _ hg (by omega), hrest⟩
theorem RK.grown {r : Nat} {w W W' : World} {row : Option Nat} (h : RK r w W) (hg : W.grownBy W' row) (hr : ∀ k, row = some k → w.heap.size ≤ k) (hlt : r < w.heap.size) : RK r w W' := by
  have hs := h.1.size
  refine ⟨h.1.grown hg (by omega) (fun k hk => by have := hr k hk; omega), fun k o hk hne => ?_⟩
  have h1 := h.2 k o hk hne
  have hkl := heap_lt hk
  rw [hg.block k (heap_lt h1) (fun e => by have := hr k e.symm; omega)]
  exact h1
end Go.Proofs.YtgaknbnhmoddcaaGreatDoor
namespace Go.Proofs.YtgaknbnhmoddcaaGreatDoor
open Go.RowKit
theorem str_info : (Tryz.prog.info? 9).map (fun i => (i.zero, i.size, i.bytes)) = some (some (.string ⟨#[]⟩), 1, 16) := by kernel_rfl
/-- A slice of texts of the call's own. -/
def OwnS (B : Nat) (v : Value) (l : List ByteArray) (W : World) : Prop := W.ownsRow B 9 1 v l.length (l.map Value.string)
theorem OwnS.nil (B : Nat) (W : World) : OwnS B (.slice none 0 0) [] W := World.ownsRow_nil W B 9 1
theorem OwnS.below {B : Nat} {v : Value} {l : List ByteArray} {w w' : World} (h : OwnS B v l w) (hb : Below w.heap.size w w') : OwnS B v l w' := by
  obtain ⟨h1, h2⟩ := h
  refine ⟨h1, ?_⟩
  rcases h2 with h2 | ⟨g, cap, cur, hv, hB, hg, hrest⟩
  · exact Or.inl h2
  · have hlt : g < w.heap.size := (Array.getElem?_eq_some_iff.1 hg).1
    exact Or.inr ⟨g, cap, cur, hv, hB, (hb.block g hlt).trans hg, hrest⟩
theorem OwnS.alloc {B : Nat} {v : Value} {l : List ByteArray} {w : World} (h : OwnS B v l w) (o : Obj) : OwnS B v l (w.alloc o) := World.ownsRow.alloc h o
theorem OwnS.lt {B : Nat} {v : Value} {l : List ByteArray} {w : World} (h : OwnS B v l w) : ∀ k, v.ownBlock = some k → B ≤ k := fun k hk => (World.ownsRow.lt h k hk).1
theorem wpList_pushS {ops : Array Oper} {rest : List Oper} {o : Oper} {a : Act} {Q : Exit → Act → World → Prop} {w : World} (hgd : o.guard = none) (s x : Operand)
    (ho : o.op = .call { callee := .builtin .append, args := #[s, x], argTypes := #[126, 126] }) (B : Nat) (v : Value) (l : List ByteArray) (hs : a.eval s = v) (hown : OwnS B v l w)
    (ad : Addr) (c : Nat) (n : ByteArray) (hx : a.eval x = .slice (some ad) 1 c) (hnew : w.cell? ad = some (.string n)) (hlen : l.length + 1 ≤ 1000000) (hB : B ≤ w.heap.size)
    (h : ∀ v' w', OwnS B v' (l ++ [n]) w' → w.grownBy w' v.ownBlock → wpList Tryz.prog ops Q rest (a.put o.dst v') w') : wpList Tryz.prog ops Q (o :: rest) a w := by
  obtain ⟨i0, hi, hz0, hz1, hz2⟩ := info_parts str_info
  refine wpList_append_own w hgd s x 126 ho B 9 i0 (.string ⟨#[]⟩) 1 16 Tryz.underlying126 hi hz0 hz1 hz2 rfl (by decide) v l.length (l.map Value.string) hs hown ad 1 c [.string n] hx rfl ?_ ?_ (by unfold maxLen; omega) (by omega) hB ?_
  · intro j u hj
    match j, hj with
    | 0, hj =>
      have e : u = .string n := (Option.some.inj hj).symm
      rw [e]; exact hnew
    | j + 1, hj => cases hj
  · intro u hu; rw [List.mem_singleton] at hu; rw [hu]; rfl
  · intro v' w' h1 h2 _
    refine h v' w' ?_ h2
    unfold OwnS at *
    rw [List.length_append, List.map_append]
    exact h1
theorem OwnS.cells {B : Nat} {v : Value} {l : List ByteArray} {w : World} (h : OwnS B v l w) : (v = .slice none 0 0 ∧ l = []) ∨ ∃ g cap, v = .slice (some ⟨g, 0, none⟩) l.length cap ∧ g < w.heap.size ∧ l.length ≤ cap ∧ ∀ (j : Nat) x, l[j]? = some x → w.cell? ⟨g, 0 + j, none⟩ = some (.string x) := by
  obtain ⟨h1, h2⟩ := h
  rcases h2 with ⟨h2, h3⟩ | ⟨g, cap, cur, hv, hB, hg, hn, hc, hcs, ht⟩
  · exact Or.inl ⟨h2, List.eq_nil_of_length_eq_zero h3⟩
  · refine Or.inr ⟨g, cap, hv, (Array.getElem?_eq_some_iff.1 hg).1, hn, ?_⟩
    intro j x hj
    rw [Nat.mul_one] at ht
    have hjl : j < l.length := (List.getElem?_eq_some_iff.1 hj).1
    have e : cur.toList[j]? = some (.string x) := by
      have : (cur.toList.take l.length)[j]? = some (.string x) := by rw [ht]; simp [hj]
      rw [List.getElem?_take] at this
      simpa [hjl] using this
    rw [Nat.zero_add]
    refine (Lib.cell_of_heap hg j).trans ?_
    simpa using e
end Go.Proofs.YtgaknbnhmoddcaaGreatDoor
namespace Go.Proofs.YtgaknbnhmoddcaaGreatDoor
open Go.RowKit Go.Lib
abbrev Ex := Except Int (List UInt8)
def tkE (what : List UInt8) (E : Ex) : Ex := match E with
  | .error e => .error e
  | .ok l => match tkJ what l with | none => .error 40 | some t => .ok t
def blE (E : Ex) : Ex := match E with | .error e => .error e | .ok l => .ok (blJ l)
theorem tkE_none {what l : List UInt8} (h : tkJ what l = none) : tkE what (.ok l) = .error 40 := by simp [tkE, h]
theorem tkE_some {what l t : List UInt8} (h : tkJ what l = some t) : tkE what (.ok l) = .ok t := by simp [tkE, h]
/-- What is left is a text. -/
def VaE (E : Ex) : Prop := match E with | .error _ => True | .ok l => validD l = true
theorem VaE.tk {what : List UInt8} {E : Ex} (h : VaE E) (hw : ∀ c ∈ what, c.toNat < 128) : VaE (tkE what E) := by
  cases E with
  | error e => trivial
  | ok l =>
    cases ht : tkJ what l with
    | none => rw [tkE_none ht]; trivial
    | some t => rw [tkE_some ht]; exact (cut_tk what l t hw ht).1.2 h
theorem VaE.bl {E : Ex} (h : VaE E) : VaE (blE E) := by
  cases E with
  | error e => trivial
  | ok l => exact (cut_bl l).2 h
end Go.Proofs.YtgaknbnhmoddcaaGreatDoor
namespace Go.Proofs.YtgaknbnhmoddcaaGreatDoor
open Go.RowKit
theorem cel_info : (Tryz.prog.info? 63).map (fun i => (i.zero, i.size, i.bytes)) = some (some (.agg #[.int .u8 0, .string ⟨#[]⟩, .string ⟨#[]⟩, .int .i64 0, .int .i64 0]), 5, 56) := by kernel_rfl
def celFlat : List Cel → List Value
  | [] => []
  | t :: r => .int .u8 (t.kind.toNat : Int) :: .string ⟨t.name.toArray⟩ :: .string ⟨t.text.toArray⟩ :: .int .i64 t.num :: .int .i64 t.many :: celFlat r
theorem celFlat_len : ∀ L : List Cel, (celFlat L).length = L.length * 5
  | [] => rfl
  | t :: r => by rw [celFlat]; simp [celFlat_len r]; omega
theorem celFlat_app : ∀ L M : List Cel, celFlat (L ++ M) = celFlat L ++ celFlat M
  | [], _ => rfl
  | t :: r, M => by rw [List.cons_append, celFlat, celFlat_app r M, celFlat]; rfl
theorem celFlat_one : ∀ L : List Cel, ∀ u ∈ celFlat L, u.oneCell' = true
  | [], u, h => by cases h
  | t :: r, u, h => by
    rw [celFlat] at h
    rcases List.mem_cons.1 h with h | h
    · rw [h]; rfl
    rcases List.mem_cons.1 h with h | h
    · rw [h]; rfl
    rcases List.mem_cons.1 h with h | h
    · rw [h]; rfl
    rcases List.mem_cons.1 h with h | h
    · rw [h]; rfl
    rcases List.mem_cons.1 h with h | h
    · rw [h]; rfl
    · exact celFlat_one r u h
theorem celFlat_get : ∀ (L : List Cel) (k : Nat) (h : k < L.length), (celFlat L)[k * 5]? = some (.int .u8 (L[k].kind.toNat : Int)) ∧ (celFlat L)[k * 5 + 1]? = some (.string ⟨L[k].name.toArray⟩) ∧ (celFlat L)[k * 5 + 2]? = some (.string ⟨L[k].text.toArray⟩) ∧ (celFlat L)[k * 5 + 3]? = some (.int .i64 L[k].num) ∧ (celFlat L)[k * 5 + 4]? = some (.int .i64 L[k].many)
  | [], k, h => by simp at h
  | t :: r, 0, h => by simp [celFlat]
  | t :: r, k + 1, h => by
    have ih := celFlat_get r k (by simpa using h)
    rw [show (k + 1) * 5 = k * 5 + 1 + 1 + 1 + 1 + 1 from by omega]
    simp only [celFlat, List.getElem?_cons_succ, List.getElem_cons_succ]
    exact ih
theorem row_cels : ∀ (L : List Cel) (b off : Nat) (w : World), CelRow b off L w → ∀ j u, (celFlat L)[j]? = some u → w.cell? ⟨b, off + j, none⟩ = some u
  | [], b, off, w, h, j, u, hu => by simp [celFlat] at hu
  | t :: r, b, off, w, h, j, u, hu => by
    obtain ⟨c0, c1, c2, c3, c4⟩ := h 0 (by simp)
    rw [celFlat] at hu
    match j, hu with
    | 0, hu => rw [← hu]; simpa using c0
    | 1, hu => rw [← hu]; simpa using c1
    | 2, hu => rw [← hu]; simpa using c2
    | 3, hu => rw [← hu]; simpa using c3
    | 4, hu => rw [← hu]; simpa using c4
    | j + 5, hu =>
      have ht : CelRow b (off + 5) r w := by
        intro k hk
        have := h (k + 1) (by simpa using hk)
        rw [show off + (k + 1) * 5 = off + 5 + k * 5 from by omega] at this
        exact this
      have := row_cels r b (off + 5) w ht j u (by simpa using hu)
      rw [show off + (j + 5) = off + 5 + j from by omega]
      exact this
theorem addr_add (b o j : Nat) : (⟨b, o, none⟩ : Addr).add j = ⟨b, o + j, none⟩ := by
  unfold Addr.add
  split
  · rename_i hz; rw [hz]; rfl
  · rfl
/-- A slice of cells of the call's own. -/
def OwnC (B : Nat) (v : Value) (L : List Cel) (W : World) : Prop := W.ownsRow B 63 5 v L.length (celFlat L)
theorem OwnC.nil (B : Nat) (W : World) : OwnC B (.slice none 0 0) [] W := World.ownsRow_nil W B 63 5
theorem OwnC.lt {B : Nat} {v : Value} {l : List Cel} {w : World} (h : OwnC B v l w) : ∀ k, v.ownBlock = some k → B ≤ k := fun k hk => (World.ownsRow.lt h k hk).1
theorem OwnC.sl {B : Nat} {v : Value} {L : List Cel} {w : World} (h : OwnC B v L w) : CelSl v L w := by
  obtain ⟨h1, h2⟩ := h
  rcases h2 with ⟨rfl, h2⟩ | ⟨g, cap, cur, rfl, hB, hg, hn, hc, hcs, ht⟩
  · exact Or.inl ⟨_, _, rfl, List.eq_nil_of_length_eq_zero h2, fun _ => rfl⟩
  · by_cases h0 : L = []
    · subst h0
      exact Or.inl ⟨_, _, rfl, rfl, fun h => by cases h⟩
    refine Or.inr ⟨g, 0, cap, rfl, ?_, List.length_pos_iff.2 h0⟩
    intro k hk
    obtain ⟨g0, g1, g2, g3, g4⟩ := celFlat_get L k hk
    have F : ∀ j u, (celFlat L)[j]? = some u → w.cell? ⟨g, 0 + j, none⟩ = some u := by
      intro j u hj
      have hjl : j < L.length * 5 := by rw [← celFlat_len]; exact (List.getElem?_eq_some_iff.1 hj).1
      rw [← ht, List.getElem?_take, if_pos hjl] at hj
      rw [Nat.zero_add]
      refine (Lib.cell_of_heap hg j).trans ?_
      simpa using hj
    exact ⟨F _ _ g0, F _ _ g1, F _ _ g2, F _ _ g3, F _ _ g4⟩
/-- 'append(v, u..)' of cells that stand in a row. -/
theorem wpList_appC {ops : Array Oper} {rest : List Oper} {o : Oper} {a : Act} {Q : Exit → Act → World → Prop} {w : World} (hgd : o.guard = none) (s x : Operand)
    (ho : o.op = .call { callee := .builtin .append, args := #[s, x], argTypes := #[22, 22] }) (B : Nat) (v u : Value) (L M : List Cel) (hs : a.eval s = v) (hown : OwnC B v L w)
    (hx : a.eval x = u) (hu : CelSl u M w) (hlen : L.length + M.length ≤ 1000000) (hB : B ≤ w.heap.size)
    (h : ∀ v' w', OwnC B v' (L ++ M) w' → w.grownBy w' v.ownBlock → wpList Tryz.prog ops Q rest (a.put o.dst v') w') : wpList Tryz.prog ops Q (o :: rest) a w := by
  obtain ⟨i0, hi, hz0, hz1, hz2⟩ := info_parts cel_info
  have fin : ∀ (ad : Addr) (c : Nat), u = .slice (some ad) M.length c → (∀ j q, (celFlat M)[j]? = some q → w.cell? (ad.add j) = some q) → wpList Tryz.prog ops Q (o :: rest) a w := by
    intro ad c hu2 hcells
    refine wpList_append_own w hgd s x 22 ho B 63 i0 (.agg #[.int .u8 0, .string ⟨#[]⟩, .string ⟨#[]⟩, .int .i64 0, .int .i64 0]) 5 56 Tryz.underlying22 hi hz0 hz1 hz2 rfl (by decide) v L.length (celFlat L) hs hown ad M.length c (celFlat M) (hx.trans hu2) (celFlat_len M) hcells (celFlat_one M) (by unfold maxLen; omega) (by omega) hB ?_
    intro v' w' h1 h2 _
    refine h v' w' ?_ h2
    unfold OwnC
    rw [List.length_append, celFlat_app]
    exact h1
  rcases hu with ⟨ua, uc, hu2, rfl, hcap⟩ | ⟨b, off, cap, hu2, hr, _⟩
  · rcases ua with _ | ad
    · refine wpList_append_own_none hgd s x 22 ho B 63 i0 5 Tryz.underlying22 hi v L.length (celFlat L) hs hown (by rw [hx, hu2, hcap rfl]) ?_
      have := h v w (by rw [List.append_nil]; exact hown) (World.grownBy.refl w _)
      exact this
    · exact fin ad uc hu2 (fun j q hq => by simp [celFlat] at hq)
  · exact fin ⟨b, off, none⟩ cap hu2 (fun j q hq => by rw [addr_add]; exact row_cels M b off w hr j q hq)
end Go.Proofs.YtgaknbnhmoddcaaGreatDoor
namespace Go.Proofs.YtgaknbnhmoddcaaGreatDoor
open Go.RowKit Go.Lib
/-- All older blocks stay but one, and but a slice's own. -/
def VK (r : Nat) (v : Value) (W W' : World) : Prop := Below r W W' ∧ ∀ (k : Nat) (o : Obj), W.heap[k]? = some o → k ≠ r → v.ownBlock ≠ some k → W'.heap[k]? = some o
theorem VK.refl (r : Nat) (v : Value) (W : World) : VK r v W W := ⟨Below.refl _ _, fun _ _ h _ _ => h⟩
theorem VK.rk {r : Nat} {v : Value} {W W' W'' : World} (h : VK r v W W') (h' : RK r W' W'') : VK r v W W'' := ⟨h.1.trans h'.1, fun k o hk hne hv => h'.2 k o (h.2 k o hk hne hv) hne⟩
theorem VK.trans {r : Nat} {v v1 : Value} {W W' W'' : World} (h : VK r v W W') (h' : VK r v1 W' W'') (ho : ∀ k, v1.ownBlock = some k → v.ownBlock = some k ∨ W.heap.size ≤ k) : VK r v W W'' :=
  ⟨h.1.trans h'.1, fun k o hk hne hv => h'.2 k o (h.2 k o hk hne hv) hne (fun e => by
    rcases ho k e with h1 | h1
    · exact hv h1
    · have := heap_lt hk; omega)⟩
theorem OwnC.below {B : Nat} {v : Value} {l : List Cel} {w w' : World} (h : OwnC B v l w) (hb : Below w.heap.size w w') : OwnC B v l w' := by
  obtain ⟨h1, h2⟩ := h
  refine ⟨h1, ?_⟩
  rcases h2 with h2 | ⟨g, cap, cur, hv, hB, hg, hrest⟩
  · exact Or.inl h2
  · exact Or.inr ⟨g, cap, cur, hv, hB, (hb.block g (heap_lt hg)).trans hg, hrest⟩
theorem OwnC.rk {B r : Nat} {v : Value} {l : List Cel} {w w' : World} (h : OwnC B v l w) (hk : RK r w w') (hr : r < B) : OwnC B v l w' := by
  obtain ⟨h1, h2⟩ := h
  refine ⟨h1, ?_⟩
  rcases h2 with h2 | ⟨g, cap, cur, hv, hB, hg, hrest⟩
  · exact Or.inl h2
  · exact Or.inr ⟨g, cap, cur, hv, hB, hk.2 g _ hg (by omega), hrest⟩
theorem OwnS.rk {B r : Nat} {v : Value} {l : List ByteArray} {w w' : World} (h : OwnS B v l w) (hk : RK r w w') (hr : r < B) : OwnS B v l w' := by
  obtain ⟨h1, h2⟩ := h
  refine ⟨h1, ?_⟩
  rcases h2 with h2 | ⟨g, cap, cur, hv, hB, hg, hrest⟩
  · exact Or.inl h2
  · exact Or.inr ⟨g, cap, cur, hv, hB, hk.2 g _ hg (by omega), hrest⟩
/-- Names and cells lie in two blocks. -/
theorem apartS {B B' : Nat} {nv v : Value} {l : List ByteArray} {L : List Cel} {W : World} (hn : OwnS B nv l W) (hc : OwnC B' v L W) (k : Nat) (h1 : nv.ownBlock = some k) (h2 : v.ownBlock = some k) : False := by
  rcases hn.2 with ⟨rfl, _⟩ | ⟨g, cap, cur, rfl, hB, hg, _⟩
  · cases h1
  rcases hc.2 with ⟨rfl, _⟩ | ⟨g', cap', cur', rfl, hB', hg', _⟩
  · cases h2
  have e1 : g = k := by simpa [Value.ownBlock] using h1
  have e2 : g' = k := by simpa [Value.ownBlock] using h2
  rw [e1] at hg
  rw [e2, hg] at hg'
  injection hg' with hg'
  injection hg' with h3 h4 h5
  exact absurd h4 (by decide)
theorem own_some {T : TypeId} {n B m : Nat} {v : Value} {xs : List Value} {W : World} (h : W.ownsRow B T n v m xs) : v.ownBlock = none ∨ ∃ g cap cur, v = .slice (some ⟨g, 0, none⟩) m cap ∧ v.ownBlock = some g ∧ B ≤ g ∧ W.heap[g]? = some (.cells cur T (0, 0)) := by
  rcases h.2 with ⟨rfl, _⟩ | ⟨g, cap, cur, rfl, hB, hg, _⟩
  · exact Or.inl rfl
  · exact Or.inr ⟨g, cap, cur, rfl, rfl, hB, hg⟩
theorem OwnS.vk {B B' r : Nat} {nv v : Value} {l : List ByteArray} {L : List Cel} {W W' : World} (hn : OwnS B nv l W) (hc : OwnC B' v L W) (hk : VK r v W W') (hr : r < B) : OwnS B nv l W' := by
  have hap := apartS hn hc
  obtain ⟨h1, h2⟩ := hn
  refine ⟨h1, ?_⟩
  rcases h2 with h2 | ⟨g, cap, cur, rfl, hB, hg, hrest⟩
  · exact Or.inl h2
  · exact Or.inr ⟨g, cap, cur, rfl, hB, hk.2 g _ hg (by omega) (fun e => hap g rfl e), hrest⟩
/-- The own block, and the cells of one place. -/
theorem OwnC.form {B : Nat} {v : Value} {L : List Cel} {W : World} (h : OwnC B v L W) (k : Nat) (hk : k < L.length) : ∃ g cap, v = .slice (some ⟨g, 0, none⟩) L.length cap ∧ B ≤ g ∧ g < W.heap.size ∧ (∀ i, W.frozen? ⟨g, i, none⟩ = false) ∧
    W.cell? ⟨g, k * 5, none⟩ = some (.int .u8 (L[k].kind.toNat : Int)) ∧ W.cell? ⟨g, k * 5 + 2, none⟩ = some (.string ⟨L[k].text.toArray⟩) ∧ W.cell? ⟨g, k * 5 + 3, none⟩ = some (.int .i64 L[k].num) ∧ W.cell? ⟨g, k * 5 + 4, none⟩ = some (.int .i64 L[k].many) := by
  obtain ⟨h1, h2⟩ := h
  rcases h2 with ⟨rfl, h2⟩ | ⟨g, cap, cur, rfl, hB, hg, hn, hc, hcs, ht⟩
  · omega
  refine ⟨g, cap, rfl, hB, heap_lt hg, fun i => Lib.frozen_of_heap hg i, ?_⟩
  obtain ⟨g0, g1, g2, g3, g4⟩ := celFlat_get L k hk
  have F : ∀ j u, (celFlat L)[j]? = some u → W.cell? ⟨g, j, none⟩ = some u := by
    intro j u hj
    have hjl : j < L.length * 5 := by rw [← celFlat_len]; exact (List.getElem?_eq_some_iff.1 hj).1
    rw [← ht, List.getElem?_take, if_pos hjl] at hj
    refine (Lib.cell_of_heap hg j).trans ?_
    simpa using hj
  exact ⟨F _ _ g0, F _ _ g2, F _ _ g3, F _ _ g4⟩
theorem OwnC.set {B g i m cap : Nat} {v u : Value} {L L' : List Cel} {W : World} (h : OwnC B v L W) (hv : v = .slice (some ⟨g, 0, none⟩) m cap) (hl : L'.length = L.length) (hf : celFlat L' = (celFlat L).set i u) : OwnC B v L' (W.setCell ⟨g, i, none⟩ u) := by
  obtain ⟨h1, h2⟩ := h
  refine ⟨by rw [hl, hf, List.length_set]; exact h1, ?_⟩
  rcases h2 with ⟨rfl, h2⟩ | ⟨g', cap', cur, hv', hB, hg, hn, hc, hcs, ht⟩
  · cases hv
  · have e : g' = g := by rw [hv] at hv'; injection hv' with hv'; injection hv' with hv'; injection hv' with hv'; exact hv'.symm
    subst e
    refine Or.inr ⟨g', cap', cur.setIfInBounds i u, by rw [hl]; exact hv', hB, pset hg u rfl, by rw [hl]; exact hn, hc, by simp [hcs], ?_⟩
    rw [hl, hf, ← ht]
    simp [List.take_set]
theorem VK.set {r g i m cap : Nat} {v u : Value} {W : World} (hv : v = .slice (some ⟨g, 0, none⟩) m cap) (hr : r < g) : VK r v W (W.setCell ⟨g, i, none⟩ u) := by
  refine ⟨(Below.refl r W).setCell (p := ⟨g, i, none⟩) (Nat.le_of_lt hr) u, fun k o hk hne hvk => ?_⟩
  rw [Below.heap_setCell _ _ _ _ (fun e => hvk (by rw [hv]; simp only [Value.ownBlock]; first | exact congrArg some e | exact congrArg some e.symm))]
  exact hk
section
variable {r : Nat} {s : ByteArray} {w : World} {v0 v : Value} {out : List Cel} {E E' : Ex} {W W' : World}
end
end Go.Proofs.YtgaknbnhmoddcaaGreatDoor
namespace Go.Proofs.YtgaknbnhmoddcaaGreatDoor
open Go.RowKit
/-- The library's tables of UTF-8 hold what their text lays. -/
def EnvU (w : World) : Prop := Lib.Utf8Tabs (Tryz.lays196_ren.g 3) (Tryz.lays196_ren.g 4) w
theorem EnvU.below {w w' : World} (h : EnvU w) (hb : Below w.heap.size w w') : EnvU w' := Utf8Tabs_below h hb
set_option maxRecDepth 100000 in
theorem tcheck_any (s : ByteArray) (hs : s.size ≤ 1000000) (w : World) (hE : EnvU w) :
    Calls Tryz.prog 49 #[.string s] w fun e w' => e = .returned (.int .i64 (chkE s.data.toList)) ∧ Below w.heap.size w w' := by
  unfold chkE
  rw [show s.data.toList.length = s.size from by rw [Array.length_toList]; rfl]
  by_cases h : 16384 < s.size
  · rw [if_pos h]
    clear hE
    go_enter Tryz.func49, Tryz.ntmps49
    go_wp2_with fail
    go_ret
    exact ⟨rfl, Below.refl _ _⟩
  · rw [if_neg h]
    have H1 : Calls Tryz.prog 75 #[.string s] w fun e w' => e = .returned (.bool (Lib.validD s.data.toList)) ∧ Below w.heap.size w w' := Any.utf8_ValidString Tryz.lays196 s w (by omega) hE
    have h2 : s.size ≤ 16384 := by omega
    have HI := Lib.hid H1
    clear h hE H1
    generalize Lib.validD s.data.toList = r at *
    cases r
    all_goals
      go_enter Tryz.func49, Tryz.ntmps49
      go_wp2_with fail
      refine HI.out.mono ?_; rintro e w1 ⟨rfl, hb⟩
      go_wp2_with fail
      go_ret
      exact ⟨rfl, hb⟩
end Go.Proofs.YtgaknbnhmoddcaaGreatDoor
namespace Go.Proofs.YtgaknbnhmoddcaaGreatDoor
open Go.RowKit Go.Lib
/-- The program's reader. -/
def RdP (p : Nat) (b : ByteArray) (v : Value) (op : Int) (W : World) : Prop := W.heap[p]? = some (.cells #[.string b, v, .int .i64 op] 271 (0, 0))
theorem RdP.cells {p : Nat} {b : ByteArray} {v : Value} {op : Int} {W : World} (h : RdP p b v op W) :
    W.cell? ⟨p, 0, none⟩ = some (.string b) ∧ W.cell? ⟨p, 1, none⟩ = some v ∧ W.cell? ⟨p, 2, none⟩ = some (.int .i64 op) := by
  unfold RdP at h
  refine ⟨?_, ?_, ?_⟩
  all_goals (rw [Lib.cell_of_heap h]; rfl)
theorem RdP.below {p : Nat} {b : ByteArray} {v : Value} {op : Int} {W W' : World} (h : RdP p b v op W) (hb : Below W.heap.size W W') : RdP p b v op W' := (hb.block p (heap_lt h)).trans h
theorem RdP.lt {p : Nat} {b : ByteArray} {v : Value} {op : Int} {W : World} (h : RdP p b v op W) : p < W.heap.size := heap_lt h
theorem RdP.frozen {p : Nat} {b : ByteArray} {v : Value} {op : Int} {W : World} (h : RdP p b v op W) (i : Nat) : W.frozen? ⟨p, i, none⟩ = false := Lib.frozen_of_heap h i
theorem RdP.out_ {p : Nat} {b : ByteArray} {v : Value} {op : Int} {W : World} (h : RdP p b v op W) (v' : Value) : RdP p b v' op (W.setCell ⟨p, 1, none⟩ v') := pset h _ rfl
/-- It stands at what is left. -/
def PS (p : Nat) (l : List UInt8) (v : Value) (op : Int) (W : World) : Prop := ∃ b : ByteArray, b.data.toList = l ∧ RdP p b v op W
theorem PS.below {p : Nat} {l : List UInt8} {v : Value} {op : Int} {W W' : World} (h : PS p l v op W) (hb : Below W.heap.size W W') : PS p l v op W' := by
  obtain ⟨b, h1, h2⟩ := h; exact ⟨b, h1, h2.below hb⟩
theorem PS.lt {p : Nat} {l : List UInt8} {v : Value} {op : Int} {W : World} (h : PS p l v op W) : p < W.heap.size := by
  obtain ⟨b, h1, h2⟩ := h; exact h2.lt
theorem PS.same {p : Nat} {l : List UInt8} {v : Value} {op : Int} {W W' : World} (h : PS p l v op W) (hb : W'.heap[p]? = W.heap[p]?) : PS p l v op W' := by
  obtain ⟨b, h1, h2⟩ := h; exact ⟨b, h1, hb.trans h2⟩
theorem bsz (b : ByteArray) : b.data.toList.length = b.size := by rw [Array.length_toList]; rfl
end Go.Proofs.YtgaknbnhmoddcaaGreatDoor
namespace Go.Proofs.YtgaknbnhmoddcaaGreatDoor
open Go.RowKit

/-- What a variable holds, it holds behind a call that only makes blocks. -/
theorem var_stays {P : Program} {w w' : World} {n : String} {cs : Array Value} (hv : w.var? P n = some cs) (hb : Below w.heap.size w w') : w'.var? P n = some cs := by
  unfold World.var? at hv
  obtain ⟨g, hg, h2⟩ := Option.bind_eq_some_iff.1 hv
  have hlt : g < w.heap.size := by
    rcases Nat.lt_or_ge g w.heap.size with h | h
    · exact h
    · rw [Array.getElem?_eq_none h] at h2; cases h2
  unfold World.var?
  rw [hg]
  simp only [Option.bind_some]
  rw [hb.block g hlt]; exact h2
/-- What the library's variable holds. -/
structure Env (w : World) : Prop where
  rng : ∃ tp p, w.var? Tryz.prog "strconv.ErrRange" = some #[.iface tp p]
theorem Env.stays {w w' : World} (h : Env w) (hb : Below w.heap.size w w') : Env w' :=
  ⟨let ⟨tp, p, hv⟩ := h.rng; ⟨tp, p, var_stays hv hb⟩⟩
theorem Env.below {B : Nat} {w w' : World} (h : Env w) (hb : Below B w w') (hB : w.heap.size ≤ B) : Env w' := h.stays (hb.mono hB)
end Go.Proofs.YtgaknbnhmoddcaaGreatDoor
namespace Go.Proofs.YtgaknbnhmoddcaaGreatDoor
open Go.RowKit Go.Lib
def headE (n : Nat) (l : List UInt8) : Ex := if n = 0 then .ok l else blE (tkE [44] (.ok l))
theorem VaE.head {n : Nat} {l : List UInt8} (h : validD l = true) : VaE (headE n l) := by
  unfold headE
  split
  · exact h
  · exact VaE.bl (VaE.tk (E := .ok l) h (by decide))
end Go.Proofs.YtgaknbnhmoddcaaGreatDoor
namespace Go.Proofs.YtgaknbnhmoddcaaGreatDoor
open Go.RowKit Go.Lib
/-- The reader's state, behind a world that it began in. -/
structure VP (p : Nat) (w : World) (v0 v : Value) (out : List Cel) (l : List UInt8) (op : Int) (W : World) : Prop where
  st : PS p l v op W
  own : OwnC (p + 1) v out W
  vk : VK p v0 w W
  ob : ∀ k, v.ownBlock = some k → v0.ownBlock = some k ∨ w.heap.size ≤ k
section
variable {p : Nat} {w : World} {v0 v : Value} {out : List Cel} {l l' : List UInt8} {op op' : Int} {W W' : World}
theorem VP.size (h : VP p w v0 v out l op W) : w.heap.size ≤ W.heap.size := h.vk.1.size
theorem VP.rk (h : VP p w v0 v out l op W) (hs : PS p l' v op' W') (hk : RK p W W') : VP p w v0 v out l' op' W' := ⟨hs, h.own.rk hk (Nat.lt_succ_self p), h.vk.rk hk, h.ob⟩
theorem VP.below (h : VP p w v0 v out l op W) (hb : Below W.heap.size W W') : VP p w v0 v out l op W' := h.rk (h.st.below hb) (RK.of_below hb h.st.lt)
theorem VP.alloc (h : VP p w v0 v out l op W) (o : Obj) : VP p w v0 v out l op (W.alloc o) := h.below ((Below.refl W.heap.size W).alloc (Nat.le_refl _) _)
theorem VP.drewN (h : VP p w v0 v out l op W) (n : Nat) : VP p w v0 v out l op (W.drewN n) := h.below (below_dN n (Below.refl _ _))
theorem PS.out_ (h : PS p l v op W) (v' : Value) : PS p l v' op (W.setCell ⟨p, 1, none⟩ v') := by
  obtain ⟨b, h1, h2⟩ := h; exact ⟨b, h1, h2.out_ v'⟩
theorem VP.grown {v' : Value} {out' : List Cel} {H : Nat} (h : VP p w v0 v out l op W) (ho : OwnC (p + 1) v' out' W') (hg : W.grownBy W' v.ownBlock) (hat : v'.ownBlock = v.ownBlock ∨ v'.ownBlock = some H) (hH : W.heap.size = H) : PS p l v op W' ∧ VP p w v0 v' out' l op (W'.setCell ⟨p, 1, none⟩ v') := by
  have hlt := h.st.lt
  have hne : some p ≠ v.ownBlock := fun e => by
    rcases own_some h.own with h0 | ⟨g, _, _, _, h0, h1, _⟩
    · rw [h0] at e; cases e
    · rw [h0] at e; injection e with e; omega
  have hst : PS p l v op W' := h.st.same (hg.block p hlt hne)
  have hvk : VK p v W W' := by
    refine ⟨(Below.refl p W).grown hg (Nat.le_of_lt hlt) (fun k hk => ?_), fun k o hk hne2 hv => ?_⟩
    · rcases own_some h.own with h0 | ⟨g, _, _, _, h0, h1, _⟩
      · rw [h0] at hk; cases hk
      · rw [h0] at hk; injection hk with hk; omega
    · rw [hg.block k (heap_lt hk) (fun e => hv e.symm)]; exact hk
  refine ⟨hst, hst.out_ v', ho.rk (RK.set p 1 _ _) (Nat.lt_succ_self p), (h.vk.trans hvk h.ob).rk (RK.set p 1 _ _), fun k hk => ?_⟩
  rcases hat with e | e
  · exact h.ob k (e ▸ hk)
  · rw [e] at hk; injection hk with hk
    have := h.size
    rw [hH] at this
    exact Or.inr (by omega)
theorem VP.set {g i m cap : Nat} {u : Value} {out' : List Cel} (h : VP p w v0 v out l op W) (hv : v = .slice (some ⟨g, 0, none⟩) m cap) (hr : p < g) (hl : out'.length = out.length) (hf : celFlat out' = (celFlat out).set i u) : VP p w v0 v out' l op (W.setCell ⟨g, i, none⟩ u) := by
  refine ⟨h.st.same ?_, h.own.set hv hl hf, h.vk.trans (VK.set hv hr) h.ob, h.ob⟩
  exact Below.heap_setCell _ _ _ _ (by show p ≠ g; omega)
end
end Go.Proofs.YtgaknbnhmoddcaaGreatDoor
namespace Go.Proofs.YtgaknbnhmoddcaaGreatDoor
open Go.RowKit Go.Lib
theorem acons {P : Program} {ops : Array Oper} {Q : Exit → Act → World → Prop} {md : Region.Mode} {S : World → Prop} (i : Nat) {fuel : Nat} {listed : Array Bool} {a : Act} {w : World} {o : Oper} {rs : List Nat} (ho : ops.toList[i]? = some o)
    (h : ∀ K' : Act → World → Prop, Shut (∀ a w, S w → (S w → wpAnyH P md ops Q S fuel (listed.setIfInBounds i true) a w) → K' a w) → if Region.wanted o (yielded ops a.tmps) = true then Oper.wp P o a w K' Q else K' (a.put o.dst undef) w)
    (hs : AllReadyH P md ops Q S fuel listed a w rs) : AllReadyH P md ops Q S fuel listed a w (i :: rs) :=
  AllReadyH.cons (by rw [← Array.getElem?_toList]; exact ho) h hs
end Go.Proofs.YtgaknbnhmoddcaaGreatDoor
namespace Go.Proofs.YtgaknbnhmoddcaaGreatDoor
open Go.RowKit Go.Maps
theorem names_keyed : Keyed Tryz.prog 9 := string_keyed Tryz.underlying9
theorem names_zero (w : World) : (zeroValue 3).run Tryz.prog w = .ok (.int .i64 0) w := by kernel_rfl
theorem names_key (x : ByteArray) (h : x.size ≤ maxLen) : keyOf Tryz.prog 9 (.string x) = some (.string x.data.toList) := Go.WideMaps.keyOf_string_mk Tryz.underlying9 h
/-- A map of the call's own that holds 1 at each of some names, and nothing else. -/
def NamesM (bm : Nat) (L : List (List UInt8)) (W : World) : Prop := ∃ (n : Nat) (D : DataW Unit), n ≤ L.length ∧ W.ownsMap Tryz.prog 9 (plainElem Tryz.prog 3) bm n D ∧ IsMap D ∧
  ∀ x : List UInt8, D.atKey (.string x) (.lit (.int .i64 0)) = .lit (.int .i64 (if amongB L x then 1 else 0))
theorem NamesM.made (W : World) : NamesM W.heap.size [] (W.alloc (.map #[] 0)) :=
  ⟨0, .map [], Nat.le_refl _, World.ownsMap_made _ _ _ _, isMap_empty, fun x => rfl⟩
theorem NamesM.lt {bm : Nat} {L : List (List UInt8)} {W : World} (h : NamesM bm L W) : bm < W.heap.size := by
  obtain ⟨n, D, _, h, _⟩ := h; exact h.lt
theorem NamesM.keep {bm : Nat} {L : List (List UInt8)} {W W' : World} (h : NamesM bm L W) (he : W'.heap[bm]? = W.heap[bm]?) : NamesM bm L W' := by
  obtain ⟨n, D, h0, ⟨es, clock, hb, F, hs, hD⟩, h2⟩ := h
  exact ⟨n, D, h0, ⟨es, clock, he.trans hb, F, hs, hD⟩, h2⟩
theorem NamesM.below {bm : Nat} {L : List (List UInt8)} {W W' : World} (h : NamesM bm L W) (hb : Below W.heap.size W W') : NamesM bm L W' := h.keep (hb.block bm h.lt)
theorem NamesM.grown {bm : Nat} {L : List (List UInt8)} {W W' : World} {row : Option Nat} (h : NamesM bm L W) (hb : W.grownBy W' row) (hne : some bm ≠ row) : NamesM bm L W' := h.keep (hb.block bm h.lt hne)
theorem NamesM.lookup {bm : Nat} {L : List (List UInt8)} {W : World} (h : NamesM bm L W) (x : ByteArray) (hx : x.size ≤ maxLen) :
    (Instr.lookup 136 (.map (some bm)) (.string x) false).run Tryz.prog W = .ok (.int .i64 (if amongB L x.data.toList then 1 else 0)) W := by
  obtain ⟨n, D, h0, h1, h2, h3⟩ := h
  obtain ⟨c, hrun, hat, hwc⟩ := h1.lookup_int names_keyed Tryz.underlying136 Tryz.underlying3 (names_zero W) (names_key x hx)
  rw [hrun]
  have := hat.symm.trans (h3 x.data.toList)
  simp only [DataW.lit.injEq, Lit.int.injEq, true_and] at this
  rw [this]
theorem NamesM.update {bm : Nat} {L : List (List UInt8)} {W : World} (h : NamesM bm L W) (x : ByteArray) (hx : x.size ≤ maxLen) (hL : L.length < 1000000) :
    ∃ W', (Instr.mapUpdate 136 (.map (some bm)) (.string x) (.int .i64 1)).run Tryz.prog W = .ok () W' ∧ NamesM bm (x.data.toList :: L) W' ∧ W.grownBy W' (some bm) := by
  obtain ⟨n, D, h0, h1, h2, h3⟩ := h
  obtain ⟨W', hrun, r1, r2⟩ := h1.update (kl := .string x.data.toList) (d := .lit (.int .i64 1)) (ps := []) names_keyed Tryz.underlying136 (by unfold maxLen; omega) (names_key x hx) (plainElem_int Tryz.underlying3 (by decide))
  refine ⟨W', hrun, ⟨n + 1, _, by simp; omega, r1, h2.put _ _, ?_⟩, r2⟩
  intro y
  by_cases hy : y = x.data.toList
  · subst hy
    rw [atKey_put_same h2 (by trivial)]
    have : amongB (x.data.toList :: L) x.data.toList = true := by unfold amongB; simp
    rw [this]; rfl
  · rw [atKey_put_other (fun e => hy (by injection e)), h3 y]
    have : amongB (x.data.toList :: L) y = amongB L y := by
      unfold amongB
      rw [List.any_cons]
      have : (x.data.toList == y) = false := beq_eq_false_iff_ne.2 fun e => hy e.symm
      rw [this, Bool.false_or]
    rw [this]
end Go.Proofs.YtgaknbnhmoddcaaGreatDoor
namespace Go.Proofs.YtgaknbnhmoddcaaGreatDoor
open Go.RowKit Go.Lib
/-- All older blocks but two stay. -/
def MK (p m : Nat) (W W' : World) : Prop := Below p W W' ∧ ∀ (k : Nat) (o : Obj), W.heap[k]? = some o → k ≠ p → k ≠ m → W'.heap[k]? = some o
theorem MK.of_rk {p m : Nat} {W W' : World} (h : RK p W W') : MK p m W W' := ⟨h.1, fun k o hk h1 _ => h.2 k o hk h1⟩
theorem MK.rk {p m : Nat} {W W' W'' : World} (h : MK p m W W') (h' : RK p W' W'') : MK p m W W'' := ⟨h.1.trans h'.1, fun k o hk h1 h2 => h'.2 k o (h.2 k o hk h1 h2) h1⟩
theorem MK.grown {p m : Nat} {W W' W'' : World} (h : MK p m W W') (hg : W'.grownBy W'' (some m)) (hp : p < m) (hlt : m < W'.heap.size) : MK p m W W'' :=
  ⟨h.1.grown hg (by omega) (fun k hk => by injection hk with hk; omega), fun k o hk h1 h2 => (hg.block k (heap_lt (h.2 k o hk h1 h2)) (fun e => h2 (by injection e))).trans (h.2 k o hk h1 h2)⟩
theorem NamesM.rk {bm p : Nat} {L : List (List UInt8)} {W W' : World} (h : NamesM bm L W) (hk : RK p W W') (hne : bm ≠ p) : NamesM bm L W' := by
  refine h.keep ?_
  have := Array.getElem?_eq_getElem h.lt
  rw [this]
  exact hk.2 bm _ this hne
theorem among_contains (L : List (List UInt8)) (n : List UInt8) : amongB L n = L.contains n := by
  unfold amongB
  induction L with
  | nil => rfl
  | cons a L ih =>
    rw [List.any_cons, List.contains_cons, ih]
    congr 1
    exact BEq.comm
/-- The reader's state, with names in a map. -/
structure IS (p bm : Nat) (w : World) (v0 v : Value) (out : List Cel) (l : List UInt8) (op : Int) (nm : List (List UInt8)) (W : World) : Prop where
  vp : VP p w v0 v out l op W
  nm : NamesM bm nm W
  lo : w.heap.size ≤ bm
  pl : p < w.heap.size
  ne : v.ownBlock ≠ some bm
section
variable {p bm : Nat} {w : World} {v0 v : Value} {out : List Cel} {l l' : List UInt8} {op op' : Int} {nm nm' : List (List UInt8)} {W W' : World}
theorem IS.rk (h : IS p bm w v0 v out l op nm W) (hs : PS p l' v op' W') (hk : RK p W W') : IS p bm w v0 v out l' op' nm W' :=
  ⟨h.vp.rk hs hk, h.nm.rk hk (by have := h.lo; have := h.pl; omega), h.lo, h.pl, h.ne⟩
theorem IS.below (h : IS p bm w v0 v out l op nm W) (hb : Below W.heap.size W W') : IS p bm w v0 v out l op nm W' := h.rk (h.vp.st.below hb) (RK.of_below hb h.vp.st.lt)
theorem OwnC.mk {B p m : Nat} {v : Value} {L : List Cel} {W W' : World} (h : OwnC B v L W) (hk : MK p m W W') (hp : p < B) (hne : v.ownBlock ≠ some m) : OwnC B v L W' := by
  obtain ⟨h1, h2⟩ := h
  refine ⟨h1, ?_⟩
  rcases h2 with h2 | ⟨g, cap, cur, hv, hB, hg, hrest⟩
  · exact Or.inl h2
  · refine Or.inr ⟨g, cap, cur, hv, hB, hk.2 g _ hg (by omega) (fun e => hne ?_), hrest⟩
    rw [hv, ← e]; rfl
theorem VP.join {v2 : Value} {out2 : List Cel} (h : VP p w v0 v out l op W) (h' : VP p W v v2 out2 l' op' W') : VP p w v0 v2 out2 l' op' W' :=
  ⟨h'.st, h'.own, h.vk.trans h'.vk h.ob, fun k hk => by
    rcases h'.ob k hk with e | e
    · exact h.ob k e
    · have := h.size; exact Or.inr (by omega)⟩
theorem IS.val {v2 : Value} {out2 : List Cel} (h : IS p bm w v0 v out l op nm W) (h' : VP p W v v2 out2 l' op' W') : IS p bm w v0 v2 out2 l' op' nm W' := by
  have hlt := h.nm.lt
  refine ⟨h.vp.join h', h.nm.keep ?_, h.lo, h.pl, fun e => ?_⟩
  · have := Array.getElem?_eq_getElem hlt
    rw [this]
    exact h'.vk.2 bm _ this (by have := h.lo; have := h.pl; omega) h.ne
  · rcases h'.ob bm e with e | e
    · exact h.ne e
    · omega
end
end Go.Proofs.YtgaknbnhmoddcaaGreatDoor
namespace Go.Proofs.YtgaknbnhmoddcaaGreatDoor
open Go.RowKit Go.Lib
theorem LS.grown {p tb off cap : Nat} {T : List Tok} {fx : Bool} {k : Nat} {op : Int} {v : Value} {W W' : World} {bm : Nat} (h : LS p tb off cap T fx k op v W) (hg : W.grownBy W' (some bm)) (hp : p < bm) : LS p tb off cap T fx k op v W' := by
  have hb := h.2.2.1
  refine ⟨(hg.block p h.lt (fun e => by injection e; omega)).trans h.1, ?_, h.2.2⟩
  intro i hi
  obtain ⟨h1, h2, h3⟩ := h.2.1 i hi
  have e := hg.block tb (lt_of_cell h1) (fun e => by injection e; omega)
  refine ⟨?_, ?_, ?_⟩
  · rw [← h1]; unfold World.cell?; rw [e]
  · rw [← h2]; unfold World.cell?; rw [e]
  · rw [← h3]; unfold World.cell?; rw [e]
end Go.Proofs.YtgaknbnhmoddcaaGreatDoor
namespace Go.Proofs.YtgaknbnhmoddcaaGreatDoor
open Go.RowKit Go.Lib
/-- The reader's state, behind a world that it began in. -/
structure LV (p tb off cap : Nat) (T : List Tok) (fx : Bool) (w : World) (v0 v : Value) (out : List Cel) (k : Nat) (op : Int) (W : World) : Prop where
  st : LS p tb off cap T fx k op v W
  own : OwnC (p + 1) v out W
  vk : VK p v0 w W
  ob : ∀ k, v.ownBlock = some k → v0.ownBlock = some k ∨ w.heap.size ≤ k
section
variable {p tb off cap : Nat} {T : List Tok} {fx : Bool} {w : World} {v0 v : Value} {out : List Cel} {k k' : Nat} {op op' : Int} {W W' : World}
theorem LV.size (h : LV p tb off cap T fx w v0 v out k op W) : w.heap.size ≤ W.heap.size := h.vk.1.size
theorem LV.rk (h : LV p tb off cap T fx w v0 v out k op W) (hs : LS p tb off cap T fx k' op' v W') (hk : RK p W W') : LV p tb off cap T fx w v0 v out k' op' W' := ⟨hs, h.own.rk hk (Nat.lt_succ_self p), h.vk.rk hk, h.ob⟩
theorem LV.below (h : LV p tb off cap T fx w v0 v out k op W) (hb : Below W.heap.size W W') : LV p tb off cap T fx w v0 v out k op W' := h.rk (h.st.below hb) (RK.of_below hb h.st.lt)
theorem LV.alloc (h : LV p tb off cap T fx w v0 v out k op W) (o : Obj) : LV p tb off cap T fx w v0 v out k op (W.alloc o) := h.below ((Below.refl W.heap.size W).alloc (Nat.le_refl _) _)
theorem LV.drewN (h : LV p tb off cap T fx w v0 v out k op W) (n : Nat) : LV p tb off cap T fx w v0 v out k op (W.drewN n) := h.below (below_dN n (Below.refl _ _))
/-- A block is not the row of cells, nor the reader, nor the row of tokens: it may be written. -/
theorem LS.same (h : LS p tb off cap T fx k op v W) (hp : W'.heap[p]? = W.heap[p]?) (ht : W'.heap[tb]? = W.heap[tb]?) : LS p tb off cap T fx k op v W' := by
  refine ⟨hp.trans h.1, ?_, h.2.2⟩
  intro i hi
  obtain ⟨h1, h2, h3⟩ := h.2.1 i hi
  refine ⟨?_, ?_, ?_⟩
  · rw [← h1]; unfold World.cell?; rw [ht]
  · rw [← h2]; unfold World.cell?; rw [ht]
  · rw [← h3]; unfold World.cell?; rw [ht]
theorem LV.grown {v' : Value} {out' : List Cel} {H : Nat} (h : LV p tb off cap T fx w v0 v out k op W) (ho : OwnC (p + 1) v' out' W') (hg : W.grownBy W' v.ownBlock) (hat : v'.ownBlock = v.ownBlock ∨ v'.ownBlock = some H) (hH : W.heap.size = H) : LS p tb off cap T fx k op v W' ∧ LV p tb off cap T fx w v0 v' out' k op (W'.setCell ⟨p, 4, none⟩ v') := by
  have hlt := h.st.lt
  have htb := h.st.2.2.1
  have hne : ∀ q, q ≤ p → some q ≠ v.ownBlock := fun q hq e => by
    rcases own_some h.own with h0 | ⟨g, _, _, _, h0, h1, _⟩
    · rw [h0] at e; cases e
    · rw [h0] at e; injection e with e; omega
  have hst : LS p tb off cap T fx k op v W' := h.st.same (hg.block p hlt (hne p (Nat.le_refl _))) (hg.block tb (by omega) (hne tb (by omega)))
  have hvk : VK p v W W' := by
    refine ⟨(Below.refl p W).grown hg (Nat.le_of_lt hlt) (fun k hk => ?_), fun k o hk hne2 hv => ?_⟩
    · rcases own_some h.own with h0 | ⟨g, _, _, _, h0, h1, _⟩
      · rw [h0] at hk; cases hk
      · rw [h0] at hk; injection hk with hk; omega
    · rw [hg.block k (heap_lt hk) (fun e => hv e.symm)]; exact hk
  refine ⟨hst, hst.out v', ho.rk (RK.set p 4 _ _) (Nat.lt_succ_self p), (h.vk.trans hvk h.ob).rk (RK.set p 4 _ _), fun k hk => ?_⟩
  rcases hat with e | e
  · exact h.ob k (e ▸ hk)
  · rw [e] at hk; injection hk with hk
    have := h.size
    rw [hH] at this
    exact Or.inr (by omega)
theorem LV.set {g i m c : Nat} {u : Value} {out' : List Cel} (h : LV p tb off cap T fx w v0 v out k op W) (hv : v = .slice (some ⟨g, 0, none⟩) m c) (hr : p < g) (hl : out'.length = out.length) (hf : celFlat out' = (celFlat out).set i u) : LV p tb off cap T fx w v0 v out' k op (W.setCell ⟨g, i, none⟩ u) := by
  have htb := h.st.2.2.1
  refine ⟨h.st.same ?_ ?_, h.own.set hv hl hf, h.vk.trans (VK.set hv hr) h.ob, h.ob⟩
  · exact Below.heap_setCell _ _ _ _ (by show p ≠ g; omega)
  · exact Below.heap_setCell _ _ _ _ (by show tb ≠ g; omega)
end
end Go.Proofs.YtgaknbnhmoddcaaGreatDoor
namespace Go.Proofs.YtgaknbnhmoddcaaGreatDoor
open Go.RowKit Go.Lib
theorem OwnT.rk {p B : Nat} {v : Value} {L : List Tok} {W W' : World} (h : OwnT B v L W) (hk : RK p W W') (hp : p < B) : OwnT B v L W' := by
  obtain ⟨h1, h2⟩ := h
  refine ⟨h1, ?_⟩
  rcases h2 with h2 | ⟨g, cap, cur, hv, hB, hg, hrest⟩
  · exact Or.inl h2
  · exact Or.inr ⟨g, cap, cur, hv, hB, hk.2 g _ hg (by omega), hrest⟩
theorem OwnT.lessU {B B' : Nat} {v : Value} {L : List Tok} {W : World} (h : OwnT B v L W) (hB : B' ≤ B) : OwnT B' v L W := by
  obtain ⟨h1, h2⟩ := h
  refine ⟨h1, ?_⟩
  rcases h2 with h2 | ⟨g, cap, cur, hv, hg, hrest⟩
  · exact Or.inl h2
  · exact Or.inr ⟨g, cap, cur, hv, by omega, hrest⟩
theorem OwnT.formU {B : Nat} {v : Value} {L : List Tok} {W : World} (h : OwnT B v L W) (hL : 0 < L.length) : ∃ g n cap, v = .slice (some ⟨g, 0, none⟩) n cap ∧ n = L.length ∧ B ≤ g ∧ n ≤ cap := by
  obtain ⟨h1, h2⟩ := h
  rcases h2 with ⟨_, h2⟩ | ⟨g, cap, cur, hv, hB, hg, hn, hrest⟩
  · omega
  · exact ⟨g, _, cap, hv, rfl, hB, hn⟩
/-- The putter holds tokens. -/
def PutS (p : Nat) (v : Value) (L : List Tok) (W : World) : Prop := W.heap[p]? = some (.cells #[v] 78 (0, 0)) ∧ OwnT (p + 1) v L W
theorem PutS.lt {p : Nat} {v : Value} {L : List Tok} {W : World} (h : PutS p v L W) : p < W.heap.size := heap_lt h.1
theorem PutS.below {p : Nat} {v : Value} {L : List Tok} {W W' : World} (h : PutS p v L W) (hb : Below W.heap.size W W') : PutS p v L W' := ⟨(hb.block p h.lt).trans h.1, h.2.below hb⟩
theorem PutS.cell {p : Nat} {v : Value} {L : List Tok} {W : World} (h : PutS p v L W) : W.cell? ⟨p, 0, none⟩ = some v := Lib.cell_of_heap h.1 0
theorem RK.grownN {p : Nat} {W W' : World} (h : W.grownBy W' none) (hp : p ≤ W.heap.size) : RK p W W' := ⟨(Below.refl p W).grown h hp (fun k hk => by cases hk), fun k o hk _ => (h.block k (heap_lt hk) (by intro e; cases e)).trans hk⟩
set_option maxRecDepth 100000 in
theorem wp_appendN {o : Oper} {a : Act} {K : Act → World → Prop} {Q : Exit → Act → World → Prop} {w : World} (s x : Operand)
    (ho : o.op = .call { callee := .builtin .append, args := #[s, x], argTypes := #[32, 32] }) (ao : Option Addr) (n : Nat) (L : List Tok) (hn : n = L.length) (hs : a.eval s = .slice ao n n) (hsl : TokSl (.slice ao n n) L w)
    (g cc : Nat) (t : Tok) (hx : a.eval x = .slice (some ⟨g, 0, none⟩) 1 cc) (hnew : w.heap[g]? = some (.cells #[.int .u8 (t.kind.toNat : Int), .string ⟨t.text.toArray⟩, .int .i64 t.pos] 72 (0, 0))) (hlen : L.length + 1 ≤ 1000000)
    (h : ∀ v' w', OwnT w.heap.size v' (L ++ [t]) w' → w.grownBy w' none → K (a.put o.dst v') w') : o.wp Tryz.prog a w K Q := by
  subst hn
  obtain ⟨i0, hi, hz0, hz1, hz2⟩ := info_parts tok_info
  have hnews : ∀ j u, (tokCells [t])[j]? = some u → w.cell? ((⟨g, 0, none⟩ : Addr).add j) = some u := fun j u hj => by
    rw [addr_addT, Nat.zero_add, Lib.cell_of_heap hnew]
    match j, hj with
    | 0, hj => simpa [tokCells] using hj
    | 1, hj => simpa [tokCells] using hj
    | 2, hj => simpa [tokCells] using hj
    | j + 3, hj => simp [tokCells] at hj
  have fin : (∃ v' w', (Builtin.append_ #[32, 32] o.type #[.slice ao L.length L.length, .slice (some ⟨g, 0, none⟩) 1 cc]).run Tryz.prog w = .ok v' w' ∧ w'.ownsRow w.heap.size 72 3 v' (L.length + 1) (tokCells L ++ tokCells [t]) ∧ w.grownBy w' none) := by
    cases ao with
    | some b =>
      have holds : ∀ j u, (tokCells L)[j]? = some u → w.cell? (b.add j) = some u := by
        rcases hsl with ⟨ua, uc, hu2, hL, hcap⟩ | ⟨b2, off, cap, hu2, hr⟩
        · intro j u hj; rw [hL] at hj; simp [tokCells] at hj
        · injection hu2 with e1 e2 e3
          injection e1 with e1
          subst e1
          exact fun j u hj => by rw [addr_addT]; exact row_cells L b2 off w hr j u hj
      exact run_append_arg_grows (P := Tryz.prog) w 32 o.type 72 i0 (.agg #[.int .u8 0, .string ⟨#[]⟩, .int .i64 0]) 3 32 Tryz.underlying32 hi hz0 hz1 hz2 rfl (by decide) b L.length L.length (tokCells L) (tokCells_len L) holds ⟨g, 0, none⟩ 1 cc (tokCells [t]) rfl hnews (by omega) (by unfold maxLen; omega) (by omega)
    | none =>
      have hL : L = [] := by
        rcases hsl with ⟨ua, uc, hu2, hL, hcap⟩ | ⟨b2, off, cap, hu2, hr⟩
        · exact hL
        · injection hu2 with e1; cases e1
      subst hL
      obtain ⟨v', w', hrun, r1, r2, _⟩ := run_append_own (P := Tryz.prog) w w.heap.size 32 o.type 72 i0 (.agg #[.int .u8 0, .string ⟨#[]⟩, .int .i64 0]) 3 32 Tryz.underlying32 hi hz0 hz1 hz2 rfl (by decide) (.slice none 0 0) 0 [] (World.ownsRow_nil w _ _ 3) ⟨g, 0, none⟩ 1 cc (tokCells [t]) rfl hnews (tokCells_one [t]) (by unfold maxLen; omega) (by omega) (Nat.le_refl _)
      exact ⟨v', w', hrun, r1, r2⟩
  obtain ⟨v', w', hr, h2, h3⟩ := fin
  unfold Oper.wp execOp
  simp only [ho, resolve, invoke, builtin, Sem.run_bind, Sem.run_pure, Result.andThen_ok, List.map_toArray, List.map_cons, List.map_nil, hs, hx, hr]
  refine h v' w' ?_ h3
  unfold OwnT
  rw [List.length_append, tokCells_app]
  exact h2
set_option maxRecDepth 100000 in
set_option maxHeartbeats 8000000 in
theorem put_add_some (p : Nat) (ao : Option Addr) (n cap : Nat) (L : List Tok) (k : UInt8) (s : ByteArray) (lb cl : Nat) (W : World) (hao : ∃ g, ao = some ⟨g, 0, none⟩) (hn : n = L.length) (hcap : n ≤ cap) (h : PutS p (.slice ao n cap) L W) (hl : W.cell? ⟨lb, 0, none⟩ = some (.string s)) (hlb : lb ≠ p) (hL : L.length ≤ 100000) :
    Calls Tryz.prog 39 #[.pointer (some ⟨p, 0, none⟩), .int .u8 (k.toNat : Int), .slice (some ⟨lb, 0, none⟩) 1 cl] W fun x W' => x = .returned (.tuple #[]) ∧ (∃ v', PutS p v' (L ++ [⟨k, s.data.toList, 0⟩]) W') ∧ RK p W W' := by
  obtain ⟨kd, hkd⟩ : ∃ kd : Int, (k.toNat : Int) = kd := ⟨_, rfl⟩
  rw [hkd]
  have HKD := Lib.hid hkd
  obtain ⟨g, rfl⟩ := hao
  have HS := Lib.hid h
  have HN := Lib.hid hn
  have hp := h.lt
  have c0 := h.cell
  have f0 : W.frozen? ⟨p, 0, none⟩ = false := Lib.frozen_of_heap h.1 0
  have hsl : TokSl (.slice (some ⟨g, 0, none⟩) n n) L W := by
    rcases h.2.sl with ⟨ua, uc, hu2, hL2, hc2⟩ | ⟨b2, off, cap2, hu2, hr⟩
    · injection hu2 with e1 e2 e3
      exact Or.inl ⟨some ⟨g, 0, none⟩, _, by rw [e2], hL2, fun e => by cases e⟩
    · injection hu2 with e1 e2 e3
      exact Or.inr ⟨b2, off, n, by rw [e1, ← hn], hr⟩
  have HSL := Lib.hid hsl
  have hn1 : (n : Int).toNat = n := by omega
  have hn2 : (0 : Int) ≤ (n : Int) := by omega
  have hn3 : (n : Int) ≤ (cap : Int) := by omega
  clear h hn hkd hsl
  have c0d : W.drew.cell? ⟨p, 0, none⟩ = some (.slice (some ⟨g, 0, none⟩) n cap) := c0
  have c0e : ∀ o, (W.drew.alloc o).cell? ⟨p, 0, none⟩ = some (.slice (some ⟨g, 0, none⟩) n cap) := fun o => by
    rw [World.cell?_alloc_lt _ _ _ (by exact hp)]; exact c0
  have HFIN : Hid (∀ v' y6, OwnT (W.drew.alloc (.cells #[.int .u8 kd, .string s, .int .i64 0] 72 (0, 0))).heap.size v' (L ++ [⟨k, s.data.toList, 0⟩]) y6 → (W.drew.alloc (.cells #[.int .u8 kd, .string s, .int .i64 0] 72 (0, 0))).grownBy y6 none → (y6.cell? ⟨p, 0, none⟩ = some (.slice (some ⟨g, 0, none⟩) n cap) ∧ y6.frozen? ⟨p, 0, none⟩ = false) ∧ PutS p v' (L ++ [⟨k, s.data.toList, 0⟩]) (y6.setCell ⟨p, 0, none⟩ v') ∧ RK p W (y6.setCell ⟨p, 0, none⟩ v')) := Lib.hid (fun v' y6 ho hg => by
    have hpd : p < (W.drew.alloc (.cells #[.int .u8 kd, .string s, .int .i64 0] 72 (0, 0))).heap.size := by simp; exact Nat.lt_succ_of_lt hp
    have hb : (W.drew.alloc (.cells #[.int .u8 kd, .string s, .int .i64 0] 72 (0, 0))).heap[p]? = some (.cells #[.slice (some ⟨g, 0, none⟩) n cap] 78 (0, 0)) := heap_old HS.out.1
    have h6 := (hg.block p hpd (by intro e; cases e)).trans hb
    have hk1 : RK p W (W.drew.alloc (.cells #[.int .u8 kd, .string s, .int .i64 0] 72 (0, 0))) := ⟨(below_dN 1 (Below.refl p W)).alloc (by exact Nat.le_of_lt hp) _, fun j o hj _ => heap_old hj⟩
    have hk2 : RK p W y6 := hk1.trans (RK.grownN hg (Nat.le_of_lt hpd))
    refine ⟨⟨Lib.cell_of_heap h6 0, Lib.frozen_of_heap h6 0⟩, ⟨pset h6 _ rfl, (ho.lessU (by omega)).rk (RK.set p 0 y6 v') (Nat.lt_succ_self p)⟩, hk2.trans (RK.set p 0 y6 v')⟩)
  have HNEW : Hid ((W.drew.alloc (.cells #[.int .u8 kd, .string s, .int .i64 0] 72 (0, 0))).heap[W.heap.size]? = some (.cells #[.int .u8 (((⟨k, s.data.toList, 0⟩ : Tok).kind.toNat : Nat) : Int), .string ⟨(⟨k, s.data.toList, 0⟩ : Tok).text.toArray⟩, .int .i64 (⟨k, s.data.toList, 0⟩ : Tok).pos] 72 (0, 0))) := Lib.hid (by
    rw [show (((⟨k, s.data.toList, 0⟩ : Tok).kind.toNat : Nat) : Int) = kd from HKD.out]
    exact heap_alloc_last W.drew _)
  have HSD := Lib.hid (HSL.out.below ((below_dN 1 (Below.refl W.heap.size W)).alloc (Nat.le_refl _) (.cells #[.int .u8 kd, .string s, .int .i64 0] 72 (0, 0))))
  go_enter Tryz.func39, Tryz.ntmps39
  go_wp2_with fail
  refine wp_loop_rounds 2 ?_
  rw [rounds_succ]
  go_wp2_with fail
  refine wp_region_held_drew (S := fun _ => True) (by kernel_rfl) trivial (fun hHeld => ?_)
  refine tky 0 (some 14) (v := ?_) rfl (by kernel_rfl) (by kernel_rfl) (by kernel_rfl) (fun _ _ _ h => h) ?_ hHeld ?_
  rotate_left
  focus (intro w hSw; go_simp; (try with_reducible rfl); done)
  go_frame
  refine tky 1 (some 15) (v := ?_) rfl (by kernel_rfl) (by kernel_rfl) (by kernel_rfl) (fun _ _ _ h => h) ?_ hHeld ?_
  rotate_left
  focus (intro w hSw; go_simp; (try with_reducible rfl); done)
  go_frame
  refine tky 2 (some 16) (v := ?_) rfl (by kernel_rfl) (by kernel_rfl) (by kernel_rfl) (fun _ _ _ h => h) ?_ hHeld ?_
  rotate_left
  focus (intro w hSw; go_simp; (try with_reducible rfl); done)
  go_frame
  refine tky 3 (some 17) (v := ?_) rfl (by kernel_rfl) (by kernel_rfl) (by kernel_rfl) (fun _ _ _ h => h) ?_ hHeld ?_
  rotate_left
  focus (intro w hSw; go_simp; (try with_reducible rfl); done)
  go_frame
  refine tky 5 (some 19) (v := ?_) rfl (by kernel_rfl) (by kernel_rfl) (by kernel_rfl) (fun _ _ _ h => h) ?_ hHeld ?_
  rotate_left
  focus (intro w hSw; go_simp; (try with_reducible rfl); done)
  go_frame
  refine tky 6 (some 20) (v := ?_) rfl (by kernel_rfl) (by kernel_rfl) (by kernel_rfl) (fun _ _ _ h => h) ?_ hHeld ?_
  rotate_left
  focus (intro w hSw; go_simp; (try with_reducible rfl); done)
  go_frame
  refine tky 7 (some 21) (v := ?_) rfl (by kernel_rfl) (by kernel_rfl) (by kernel_rfl) (fun _ _ _ h => h) ?_ hHeld ?_
  rotate_left
  focus (intro w hSw; go_simp; (try with_reducible rfl); done)
  go_frame
  refine tky 10 (some 24) (v := ?_) rfl (by kernel_rfl) (by kernel_rfl) (by kernel_rfl) (fun _ _ _ h => h) ?_ hHeld ?_
  rotate_left
  focus (intro w hSw; go_simp; (try with_reducible rfl); done)
  go_frame
  refine tky 11 (some 25) (v := ?_) rfl (by kernel_rfl) (by kernel_rfl) (by kernel_rfl) (fun _ _ _ h => h) ?_ hHeld ?_
  rotate_left
  focus (intro w hSw; go_simp; (try with_reducible rfl); done)
  go_frame
  refine tky 12 (some 26) (v := ?_) rfl (by kernel_rfl) (by kernel_rfl) (by kernel_rfl) (fun _ _ _ h => h) ?_ hHeld ?_
  rotate_left
  focus (intro w hSw; go_simp; (try with_reducible rfl); done)
  go_frame
  refine tky 16 (some 30) (v := ?_) rfl (by kernel_rfl) (by kernel_rfl) (by kernel_rfl) (fun _ _ _ h => h) ?_ hHeld ?_
  rotate_left
  focus (intro w hSw; go_simp; (try with_reducible rfl); done)
  go_frame
  refine tky 17 (some 31) (v := ?_) rfl (by kernel_rfl) (by kernel_rfl) (by kernel_rfl) (fun _ _ _ h => h) ?_ hHeld ?_
  rotate_left
  focus (intro w hSw; go_simp; (try with_reducible rfl); done)
  go_frame
  refine tky 18 (some 32) (v := ?_) rfl (by kernel_rfl) (by kernel_rfl) (by kernel_rfl) (fun _ _ _ h => h) ?_ hHeld ?_
  rotate_left
  focus (intro w hSw; go_simp; (try with_reducible rfl); done)
  go_frame
  refine wpAnyH_ready (rs := [4, 8, 13, 19]) (by kernel_rfl) (by simp) ?_
  refine acons 4 rfl (fun K hK => ?_) ?_
  go_simp
  refine hK.out _ _ trivial (fun _ => ?_)
  clear hK K
  (try go_frame)
  refine wpAnyH_ready (rs := [8, 13, 19]) (by kernel_rfl) (by simp) ?_
  refine acons 8 rfl (fun K hK => ?_) ?_
  go_simp
  refine hK.out _ _ trivial (fun _ => ?_)
  clear hK K
  (try go_frame)
  refine tky 9 (some 23) (v := ?_) rfl (by kernel_rfl) (by kernel_rfl) (by kernel_rfl) (fun _ _ _ h => h) ?_ hHeld ?_
  rotate_left
  focus (intro w hSw; go_simp; (try with_reducible rfl); done)
  go_frame
  refine wpAnyH_ready (rs := [13, 19]) (by kernel_rfl) (by simp) ?_
  refine acons 13 rfl (fun K hK => ?_) ?_
  go_simp
  refine hK.out _ _ trivial (fun _ => ?_)
  clear hK K
  (try go_frame)
  refine tky 14 (some 28) (v := ?_) rfl (by kernel_rfl) (by kernel_rfl) (by kernel_rfl) (fun _ _ _ h => h) ?_ hHeld ?_
  rotate_left
  focus (intro w hSw; go_simp; (try with_reducible rfl); done)
  go_frame
  refine tky 15 (some 29) (v := ?_) rfl (by kernel_rfl) (by kernel_rfl) (by kernel_rfl) (fun _ _ _ h => h) ?_ hHeld ?_
  rotate_left
  focus (intro w hSw; go_simp; (try with_reducible rfl); done)
  go_frame
  refine rcons 19 rfl (by kernel_rfl) (fun K hK => ?_)
  go_simp
  refine hK.out _ _ trivial (fun _ => ?_)
  clear hK K
  (try go_frame)
  rotate_left
  refine acons 19 rfl (fun K hK => ?_) ?_
  go_simp
  refine hK.out _ _ trivial (fun _ => ?_)
  clear hK K
  (try go_frame)
  refine rcons 13 rfl (by kernel_rfl) (fun K hK => ?_)
  go_simp
  refine hK.out _ _ trivial (fun _ => ?_)
  clear hK K
  (try go_frame)
  refine tky 14 (some 28) (v := ?_) rfl (by kernel_rfl) (by kernel_rfl) (by kernel_rfl) (fun _ _ _ h => h) ?_ hHeld ?_
  rotate_left
  focus (intro w hSw; go_simp; (try with_reducible rfl); done)
  go_frame
  refine tky 15 (some 29) (v := ?_) rfl (by kernel_rfl) (by kernel_rfl) (by kernel_rfl) (fun _ _ _ h => h) ?_ hHeld ?_
  rotate_left
  focus (intro w hSw; go_simp; (try with_reducible rfl); done)
  go_frame
  rotate_left
  exact AllReadyH.nil
  refine acons 13 rfl (fun K hK => ?_) ?_
  go_simp
  refine hK.out _ _ trivial (fun _ => ?_)
  clear hK K
  (try go_frame)
  refine tky 14 (some 28) (v := ?_) rfl (by kernel_rfl) (by kernel_rfl) (by kernel_rfl) (fun _ _ _ h => h) ?_ hHeld ?_
  rotate_left
  focus (intro w hSw; go_simp; (try with_reducible rfl); done)
  go_frame
  refine wpAnyH_ready (rs := [8, 19]) (by kernel_rfl) (by simp) ?_
  refine acons 8 rfl (fun K hK => ?_) ?_
  go_simp
  refine hK.out _ _ trivial (fun _ => ?_)
  clear hK K
  (try go_frame)
  refine tky 9 (some 23) (v := ?_) rfl (by kernel_rfl) (by kernel_rfl) (by kernel_rfl) (fun _ _ _ h => h) ?_ hHeld ?_
  rotate_left
  focus (intro w hSw; go_simp; (try with_reducible rfl); done)
  go_frame
  refine tky 15 (some 29) (v := ?_) rfl (by kernel_rfl) (by kernel_rfl) (by kernel_rfl) (fun _ _ _ h => h) ?_ hHeld ?_
  rotate_left
  focus (intro w hSw; go_simp; (try with_reducible rfl); done)
  go_frame
  refine rcons 19 rfl (by kernel_rfl) (fun K hK => ?_)
  go_simp
  refine hK.out _ _ trivial (fun _ => ?_)
  clear hK K
  (try go_frame)
  rotate_left
  refine acons 19 rfl (fun K hK => ?_) ?_
  go_simp
  refine hK.out _ _ trivial (fun _ => ?_)
  clear hK K
  (try go_frame)
  refine rcons 8 rfl (by kernel_rfl) (fun K hK => ?_)
  go_simp
  refine hK.out _ _ trivial (fun _ => ?_)
  clear hK K
  (try go_frame)
  refine tky 9 (some 23) (v := ?_) rfl (by kernel_rfl) (by kernel_rfl) (by kernel_rfl) (fun _ _ _ h => h) ?_ hHeld ?_
  rotate_left
  focus (intro w hSw; go_simp; (try with_reducible rfl); done)
  go_frame
  refine tky 15 (some 29) (v := ?_) rfl (by kernel_rfl) (by kernel_rfl) (by kernel_rfl) (fun _ _ _ h => h) ?_ hHeld ?_
  rotate_left
  focus (intro w hSw; go_simp; (try with_reducible rfl); done)
  go_frame
  rotate_left
  exact AllReadyH.nil
  refine acons 19 rfl (fun K hK => ?_) ?_
  go_simp
  refine hK.out _ _ trivial (fun _ => ?_)
  clear hK K
  (try go_frame)
  refine wpAnyH_ready (rs := [8, 13]) (by kernel_rfl) (by simp) ?_
  refine acons 8 rfl (fun K hK => ?_) ?_
  go_simp
  refine hK.out _ _ trivial (fun _ => ?_)
  clear hK K
  (try go_frame)
  refine tky 9 (some 23) (v := ?_) rfl (by kernel_rfl) (by kernel_rfl) (by kernel_rfl) (fun _ _ _ h => h) ?_ hHeld ?_
  rotate_left
  focus (intro w hSw; go_simp; (try with_reducible rfl); done)
  go_frame
  refine rcons 13 rfl (by kernel_rfl) (fun K hK => ?_)
  go_simp
  refine hK.out _ _ trivial (fun _ => ?_)
  clear hK K
  (try go_frame)
  refine tky 14 (some 28) (v := ?_) rfl (by kernel_rfl) (by kernel_rfl) (by kernel_rfl) (fun _ _ _ h => h) ?_ hHeld ?_
  rotate_left
  focus (intro w hSw; go_simp; (try with_reducible rfl); done)
  go_frame
  refine tky 15 (some 29) (v := ?_) rfl (by kernel_rfl) (by kernel_rfl) (by kernel_rfl) (fun _ _ _ h => h) ?_ hHeld ?_
  rotate_left
  focus (intro w hSw; go_simp; (try with_reducible rfl); done)
  go_frame
  rotate_left
  refine acons 13 rfl (fun K hK => ?_) ?_
  go_simp
  refine hK.out _ _ trivial (fun _ => ?_)
  clear hK K
  (try go_frame)
  refine tky 14 (some 28) (v := ?_) rfl (by kernel_rfl) (by kernel_rfl) (by kernel_rfl) (fun _ _ _ h => h) ?_ hHeld ?_
  rotate_left
  focus (intro w hSw; go_simp; (try with_reducible rfl); done)
  go_frame
  refine rcons 8 rfl (by kernel_rfl) (fun K hK => ?_)
  go_simp
  refine hK.out _ _ trivial (fun _ => ?_)
  clear hK K
  (try go_frame)
  refine tky 9 (some 23) (v := ?_) rfl (by kernel_rfl) (by kernel_rfl) (by kernel_rfl) (fun _ _ _ h => h) ?_ hHeld ?_
  rotate_left
  focus (intro w hSw; go_simp; (try with_reducible rfl); done)
  go_frame
  refine tky 15 (some 29) (v := ?_) rfl (by kernel_rfl) (by kernel_rfl) (by kernel_rfl) (fun _ _ _ h => h) ?_ hHeld ?_
  rotate_left
  focus (intro w hSw; go_simp; (try with_reducible rfl); done)
  go_frame
  rotate_left
  exact AllReadyH.nil
  exact AllReadyH.nil
  refine acons 8 rfl (fun K hK => ?_) ?_
  go_simp
  refine hK.out _ _ trivial (fun _ => ?_)
  clear hK K
  (try go_frame)
  refine tky 9 (some 23) (v := ?_) rfl (by kernel_rfl) (by kernel_rfl) (by kernel_rfl) (fun _ _ _ h => h) ?_ hHeld ?_
  rotate_left
  focus (intro w hSw; go_simp; (try with_reducible rfl); done)
  go_frame
  refine wpAnyH_ready (rs := [4, 13, 19]) (by kernel_rfl) (by simp) ?_
  refine acons 4 rfl (fun K hK => ?_) ?_
  go_simp
  refine hK.out _ _ trivial (fun _ => ?_)
  clear hK K
  (try go_frame)
  refine wpAnyH_ready (rs := [13, 19]) (by kernel_rfl) (by simp) ?_
  refine acons 13 rfl (fun K hK => ?_) ?_
  go_simp
  refine hK.out _ _ trivial (fun _ => ?_)
  clear hK K
  (try go_frame)
  refine tky 14 (some 28) (v := ?_) rfl (by kernel_rfl) (by kernel_rfl) (by kernel_rfl) (fun _ _ _ h => h) ?_ hHeld ?_
  rotate_left
  focus (intro w hSw; go_simp; (try with_reducible rfl); done)
  go_frame
  refine tky 15 (some 29) (v := ?_) rfl (by kernel_rfl) (by kernel_rfl) (by kernel_rfl) (fun _ _ _ h => h) ?_ hHeld ?_
  rotate_left
  focus (intro w hSw; go_simp; (try with_reducible rfl); done)
  go_frame
  refine rcons 19 rfl (by kernel_rfl) (fun K hK => ?_)
  go_simp
  refine hK.out _ _ trivial (fun _ => ?_)
  clear hK K
  (try go_frame)
  rotate_left
  refine acons 19 rfl (fun K hK => ?_) ?_
  go_simp
  refine hK.out _ _ trivial (fun _ => ?_)
  clear hK K
  (try go_frame)
  refine rcons 13 rfl (by kernel_rfl) (fun K hK => ?_)
  go_simp
  refine hK.out _ _ trivial (fun _ => ?_)
  clear hK K
  (try go_frame)
  refine tky 14 (some 28) (v := ?_) rfl (by kernel_rfl) (by kernel_rfl) (by kernel_rfl) (fun _ _ _ h => h) ?_ hHeld ?_
  rotate_left
  focus (intro w hSw; go_simp; (try with_reducible rfl); done)
  go_frame
  refine tky 15 (some 29) (v := ?_) rfl (by kernel_rfl) (by kernel_rfl) (by kernel_rfl) (fun _ _ _ h => h) ?_ hHeld ?_
  rotate_left
  focus (intro w hSw; go_simp; (try with_reducible rfl); done)
  go_frame
  rotate_left
  exact AllReadyH.nil
  refine acons 13 rfl (fun K hK => ?_) ?_
  go_simp
  refine hK.out _ _ trivial (fun _ => ?_)
  clear hK K
  (try go_frame)
  refine tky 14 (some 28) (v := ?_) rfl (by kernel_rfl) (by kernel_rfl) (by kernel_rfl) (fun _ _ _ h => h) ?_ hHeld ?_
  rotate_left
  focus (intro w hSw; go_simp; (try with_reducible rfl); done)
  go_frame
  refine wpAnyH_ready (rs := [4, 19]) (by kernel_rfl) (by simp) ?_
  refine acons 4 rfl (fun K hK => ?_) ?_
  go_simp
  refine hK.out _ _ trivial (fun _ => ?_)
  clear hK K
  (try go_frame)
  refine tky 15 (some 29) (v := ?_) rfl (by kernel_rfl) (by kernel_rfl) (by kernel_rfl) (fun _ _ _ h => h) ?_ hHeld ?_
  rotate_left
  focus (intro w hSw; go_simp; (try with_reducible rfl); done)
  go_frame
  refine rcons 19 rfl (by kernel_rfl) (fun K hK => ?_)
  go_simp
  refine hK.out _ _ trivial (fun _ => ?_)
  clear hK K
  (try go_frame)
  rotate_left
  refine acons 19 rfl (fun K hK => ?_) ?_
  go_simp
  refine hK.out _ _ trivial (fun _ => ?_)
  clear hK K
  (try go_frame)
  refine rcons 4 rfl (by kernel_rfl) (fun K hK => ?_)
  go_simp
  refine hK.out _ _ trivial (fun _ => ?_)
  clear hK K
  (try go_frame)
  refine tky 15 (some 29) (v := ?_) rfl (by kernel_rfl) (by kernel_rfl) (by kernel_rfl) (fun _ _ _ h => h) ?_ hHeld ?_
  rotate_left
  focus (intro w hSw; go_simp; (try with_reducible rfl); done)
  go_frame
  rotate_left
  exact AllReadyH.nil
  refine acons 19 rfl (fun K hK => ?_) ?_
  go_simp
  refine hK.out _ _ trivial (fun _ => ?_)
  clear hK K
  (try go_frame)
  refine wpAnyH_ready (rs := [4, 13]) (by kernel_rfl) (by simp) ?_
  refine acons 4 rfl (fun K hK => ?_) ?_
  go_simp
  refine hK.out _ _ trivial (fun _ => ?_)
  clear hK K
  (try go_frame)
  refine rcons 13 rfl (by kernel_rfl) (fun K hK => ?_)
  go_simp
  refine hK.out _ _ trivial (fun _ => ?_)
  clear hK K
  (try go_frame)
  refine tky 14 (some 28) (v := ?_) rfl (by kernel_rfl) (by kernel_rfl) (by kernel_rfl) (fun _ _ _ h => h) ?_ hHeld ?_
  rotate_left
  focus (intro w hSw; go_simp; (try with_reducible rfl); done)
  go_frame
  refine tky 15 (some 29) (v := ?_) rfl (by kernel_rfl) (by kernel_rfl) (by kernel_rfl) (fun _ _ _ h => h) ?_ hHeld ?_
  rotate_left
  focus (intro w hSw; go_simp; (try with_reducible rfl); done)
  go_frame
  rotate_left
  refine acons 13 rfl (fun K hK => ?_) ?_
  go_simp
  refine hK.out _ _ trivial (fun _ => ?_)
  clear hK K
  (try go_frame)
  refine tky 14 (some 28) (v := ?_) rfl (by kernel_rfl) (by kernel_rfl) (by kernel_rfl) (fun _ _ _ h => h) ?_ hHeld ?_
  rotate_left
  focus (intro w hSw; go_simp; (try with_reducible rfl); done)
  go_frame
  refine rcons 4 rfl (by kernel_rfl) (fun K hK => ?_)
  go_simp
  refine hK.out _ _ trivial (fun _ => ?_)
  clear hK K
  (try go_frame)
  refine tky 15 (some 29) (v := ?_) rfl (by kernel_rfl) (by kernel_rfl) (by kernel_rfl) (fun _ _ _ h => h) ?_ hHeld ?_
  rotate_left
  focus (intro w hSw; go_simp; (try with_reducible rfl); done)
  go_frame
  rotate_left
  exact AllReadyH.nil
  exact AllReadyH.nil
  refine acons 13 rfl (fun K hK => ?_) ?_
  go_simp
  refine hK.out _ _ trivial (fun _ => ?_)
  clear hK K
  (try go_frame)
  refine tky 14 (some 28) (v := ?_) rfl (by kernel_rfl) (by kernel_rfl) (by kernel_rfl) (fun _ _ _ h => h) ?_ hHeld ?_
  rotate_left
  focus (intro w hSw; go_simp; (try with_reducible rfl); done)
  go_frame
  refine wpAnyH_ready (rs := [4, 8, 19]) (by kernel_rfl) (by simp) ?_
  refine acons 4 rfl (fun K hK => ?_) ?_
  go_simp
  refine hK.out _ _ trivial (fun _ => ?_)
  clear hK K
  (try go_frame)
  refine wpAnyH_ready (rs := [8, 19]) (by kernel_rfl) (by simp) ?_
  refine acons 8 rfl (fun K hK => ?_) ?_
  go_simp
  refine hK.out _ _ trivial (fun _ => ?_)
  clear hK K
  (try go_frame)
  refine tky 9 (some 23) (v := ?_) rfl (by kernel_rfl) (by kernel_rfl) (by kernel_rfl) (fun _ _ _ h => h) ?_ hHeld ?_
  rotate_left
  focus (intro w hSw; go_simp; (try with_reducible rfl); done)
  go_frame
  refine tky 15 (some 29) (v := ?_) rfl (by kernel_rfl) (by kernel_rfl) (by kernel_rfl) (fun _ _ _ h => h) ?_ hHeld ?_
  rotate_left
  focus (intro w hSw; go_simp; (try with_reducible rfl); done)
  go_frame
  refine rcons 19 rfl (by kernel_rfl) (fun K hK => ?_)
  go_simp
  refine hK.out _ _ trivial (fun _ => ?_)
  clear hK K
  (try go_frame)
  rotate_left
  refine acons 19 rfl (fun K hK => ?_) ?_
  go_simp
  refine hK.out _ _ trivial (fun _ => ?_)
  clear hK K
  (try go_frame)
  refine rcons 8 rfl (by kernel_rfl) (fun K hK => ?_)
  go_simp
  refine hK.out _ _ trivial (fun _ => ?_)
  clear hK K
  (try go_frame)
  refine tky 9 (some 23) (v := ?_) rfl (by kernel_rfl) (by kernel_rfl) (by kernel_rfl) (fun _ _ _ h => h) ?_ hHeld ?_
  rotate_left
  focus (intro w hSw; go_simp; (try with_reducible rfl); done)
  go_frame
  refine tky 15 (some 29) (v := ?_) rfl (by kernel_rfl) (by kernel_rfl) (by kernel_rfl) (fun _ _ _ h => h) ?_ hHeld ?_
  rotate_left
  focus (intro w hSw; go_simp; (try with_reducible rfl); done)
  go_frame
  rotate_left
  exact AllReadyH.nil
  refine acons 8 rfl (fun K hK => ?_) ?_
  go_simp
  refine hK.out _ _ trivial (fun _ => ?_)
  clear hK K
  (try go_frame)
  refine tky 9 (some 23) (v := ?_) rfl (by kernel_rfl) (by kernel_rfl) (by kernel_rfl) (fun _ _ _ h => h) ?_ hHeld ?_
  rotate_left
  focus (intro w hSw; go_simp; (try with_reducible rfl); done)
  go_frame
  refine wpAnyH_ready (rs := [4, 19]) (by kernel_rfl) (by simp) ?_
  refine acons 4 rfl (fun K hK => ?_) ?_
  go_simp
  refine hK.out _ _ trivial (fun _ => ?_)
  clear hK K
  (try go_frame)
  refine tky 15 (some 29) (v := ?_) rfl (by kernel_rfl) (by kernel_rfl) (by kernel_rfl) (fun _ _ _ h => h) ?_ hHeld ?_
  rotate_left
  focus (intro w hSw; go_simp; (try with_reducible rfl); done)
  go_frame
  refine rcons 19 rfl (by kernel_rfl) (fun K hK => ?_)
  go_simp
  refine hK.out _ _ trivial (fun _ => ?_)
  clear hK K
  (try go_frame)
  rotate_left
  refine acons 19 rfl (fun K hK => ?_) ?_
  go_simp
  refine hK.out _ _ trivial (fun _ => ?_)
  clear hK K
  (try go_frame)
  refine rcons 4 rfl (by kernel_rfl) (fun K hK => ?_)
  go_simp
  refine hK.out _ _ trivial (fun _ => ?_)
  clear hK K
  (try go_frame)
  refine tky 15 (some 29) (v := ?_) rfl (by kernel_rfl) (by kernel_rfl) (by kernel_rfl) (fun _ _ _ h => h) ?_ hHeld ?_
  rotate_left
  focus (intro w hSw; go_simp; (try with_reducible rfl); done)
  go_frame
  rotate_left
  exact AllReadyH.nil
  refine acons 19 rfl (fun K hK => ?_) ?_
  go_simp
  refine hK.out _ _ trivial (fun _ => ?_)
  clear hK K
  (try go_frame)
  refine wpAnyH_ready (rs := [4, 8]) (by kernel_rfl) (by simp) ?_
  refine acons 4 rfl (fun K hK => ?_) ?_
  go_simp
  refine hK.out _ _ trivial (fun _ => ?_)
  clear hK K
  (try go_frame)
  refine rcons 8 rfl (by kernel_rfl) (fun K hK => ?_)
  go_simp
  refine hK.out _ _ trivial (fun _ => ?_)
  clear hK K
  (try go_frame)
  refine tky 9 (some 23) (v := ?_) rfl (by kernel_rfl) (by kernel_rfl) (by kernel_rfl) (fun _ _ _ h => h) ?_ hHeld ?_
  rotate_left
  focus (intro w hSw; go_simp; (try with_reducible rfl); done)
  go_frame
  refine tky 15 (some 29) (v := ?_) rfl (by kernel_rfl) (by kernel_rfl) (by kernel_rfl) (fun _ _ _ h => h) ?_ hHeld ?_
  rotate_left
  focus (intro w hSw; go_simp; (try with_reducible rfl); done)
  go_frame
  rotate_left
  refine acons 8 rfl (fun K hK => ?_) ?_
  go_simp
  refine hK.out _ _ trivial (fun _ => ?_)
  clear hK K
  (try go_frame)
  refine tky 9 (some 23) (v := ?_) rfl (by kernel_rfl) (by kernel_rfl) (by kernel_rfl) (fun _ _ _ h => h) ?_ hHeld ?_
  rotate_left
  focus (intro w hSw; go_simp; (try with_reducible rfl); done)
  go_frame
  refine rcons 4 rfl (by kernel_rfl) (fun K hK => ?_)
  go_simp
  refine hK.out _ _ trivial (fun _ => ?_)
  clear hK K
  (try go_frame)
  refine tky 15 (some 29) (v := ?_) rfl (by kernel_rfl) (by kernel_rfl) (by kernel_rfl) (fun _ _ _ h => h) ?_ hHeld ?_
  rotate_left
  focus (intro w hSw; go_simp; (try with_reducible rfl); done)
  go_frame
  rotate_left
  exact AllReadyH.nil
  exact AllReadyH.nil
  refine acons 19 rfl (fun K hK => ?_) ?_
  go_simp
  refine hK.out _ _ trivial (fun _ => ?_)
  clear hK K
  (try go_frame)
  refine wpAnyH_ready (rs := [4, 8, 13]) (by kernel_rfl) (by simp) ?_
  refine acons 4 rfl (fun K hK => ?_) ?_
  go_simp
  refine hK.out _ _ trivial (fun _ => ?_)
  clear hK K
  (try go_frame)
  refine wpAnyH_ready (rs := [8, 13]) (by kernel_rfl) (by simp) ?_
  refine acons 8 rfl (fun K hK => ?_) ?_
  go_simp
  refine hK.out _ _ trivial (fun _ => ?_)
  clear hK K
  (try go_frame)
  refine tky 9 (some 23) (v := ?_) rfl (by kernel_rfl) (by kernel_rfl) (by kernel_rfl) (fun _ _ _ h => h) ?_ hHeld ?_
  rotate_left
  focus (intro w hSw; go_simp; (try with_reducible rfl); done)
  go_frame
  refine rcons 13 rfl (by kernel_rfl) (fun K hK => ?_)
  go_simp
  refine hK.out _ _ trivial (fun _ => ?_)
  clear hK K
  (try go_frame)
  refine tky 14 (some 28) (v := ?_) rfl (by kernel_rfl) (by kernel_rfl) (by kernel_rfl) (fun _ _ _ h => h) ?_ hHeld ?_
  rotate_left
  focus (intro w hSw; go_simp; (try with_reducible rfl); done)
  go_frame
  refine tky 15 (some 29) (v := ?_) rfl (by kernel_rfl) (by kernel_rfl) (by kernel_rfl) (fun _ _ _ h => h) ?_ hHeld ?_
  rotate_left
  focus (intro w hSw; go_simp; (try with_reducible rfl); done)
  go_frame
  rotate_left
  refine acons 13 rfl (fun K hK => ?_) ?_
  go_simp
  refine hK.out _ _ trivial (fun _ => ?_)
  clear hK K
  (try go_frame)
  refine tky 14 (some 28) (v := ?_) rfl (by kernel_rfl) (by kernel_rfl) (by kernel_rfl) (fun _ _ _ h => h) ?_ hHeld ?_
  rotate_left
  focus (intro w hSw; go_simp; (try with_reducible rfl); done)
  go_frame
  refine rcons 8 rfl (by kernel_rfl) (fun K hK => ?_)
  go_simp
  refine hK.out _ _ trivial (fun _ => ?_)
  clear hK K
  (try go_frame)
  refine tky 9 (some 23) (v := ?_) rfl (by kernel_rfl) (by kernel_rfl) (by kernel_rfl) (fun _ _ _ h => h) ?_ hHeld ?_
  rotate_left
  focus (intro w hSw; go_simp; (try with_reducible rfl); done)
  go_frame
  refine tky 15 (some 29) (v := ?_) rfl (by kernel_rfl) (by kernel_rfl) (by kernel_rfl) (fun _ _ _ h => h) ?_ hHeld ?_
  rotate_left
  focus (intro w hSw; go_simp; (try with_reducible rfl); done)
  go_frame
  rotate_left
  exact AllReadyH.nil
  refine acons 8 rfl (fun K hK => ?_) ?_
  go_simp
  refine hK.out _ _ trivial (fun _ => ?_)
  clear hK K
  (try go_frame)
  refine tky 9 (some 23) (v := ?_) rfl (by kernel_rfl) (by kernel_rfl) (by kernel_rfl) (fun _ _ _ h => h) ?_ hHeld ?_
  rotate_left
  focus (intro w hSw; go_simp; (try with_reducible rfl); done)
  go_frame
  refine wpAnyH_ready (rs := [4, 13]) (by kernel_rfl) (by simp) ?_
  refine acons 4 rfl (fun K hK => ?_) ?_
  go_simp
  refine hK.out _ _ trivial (fun _ => ?_)
  clear hK K
  (try go_frame)
  refine rcons 13 rfl (by kernel_rfl) (fun K hK => ?_)
  go_simp
  refine hK.out _ _ trivial (fun _ => ?_)
  clear hK K
  (try go_frame)
  refine tky 14 (some 28) (v := ?_) rfl (by kernel_rfl) (by kernel_rfl) (by kernel_rfl) (fun _ _ _ h => h) ?_ hHeld ?_
  rotate_left
  focus (intro w hSw; go_simp; (try with_reducible rfl); done)
  go_frame
  refine tky 15 (some 29) (v := ?_) rfl (by kernel_rfl) (by kernel_rfl) (by kernel_rfl) (fun _ _ _ h => h) ?_ hHeld ?_
  rotate_left
  focus (intro w hSw; go_simp; (try with_reducible rfl); done)
  go_frame
  rotate_left
  refine acons 13 rfl (fun K hK => ?_) ?_
  go_simp
  refine hK.out _ _ trivial (fun _ => ?_)
  clear hK K
  (try go_frame)
  refine tky 14 (some 28) (v := ?_) rfl (by kernel_rfl) (by kernel_rfl) (by kernel_rfl) (fun _ _ _ h => h) ?_ hHeld ?_
  rotate_left
  focus (intro w hSw; go_simp; (try with_reducible rfl); done)
  go_frame
  refine rcons 4 rfl (by kernel_rfl) (fun K hK => ?_)
  go_simp
  refine hK.out _ _ trivial (fun _ => ?_)
  clear hK K
  (try go_frame)
  refine tky 15 (some 29) (v := ?_) rfl (by kernel_rfl) (by kernel_rfl) (by kernel_rfl) (fun _ _ _ h => h) ?_ hHeld ?_
  rotate_left
  focus (intro w hSw; go_simp; (try with_reducible rfl); done)
  go_frame
  rotate_left
  exact AllReadyH.nil
  refine acons 13 rfl (fun K hK => ?_) ?_
  go_simp
  refine hK.out _ _ trivial (fun _ => ?_)
  clear hK K
  (try go_frame)
  refine tky 14 (some 28) (v := ?_) rfl (by kernel_rfl) (by kernel_rfl) (by kernel_rfl) (fun _ _ _ h => h) ?_ hHeld ?_
  rotate_left
  focus (intro w hSw; go_simp; (try with_reducible rfl); done)
  go_frame
  refine wpAnyH_ready (rs := [4, 8]) (by kernel_rfl) (by simp) ?_
  refine acons 4 rfl (fun K hK => ?_) ?_
  go_simp
  refine hK.out _ _ trivial (fun _ => ?_)
  clear hK K
  (try go_frame)
  refine rcons 8 rfl (by kernel_rfl) (fun K hK => ?_)
  go_simp
  refine hK.out _ _ trivial (fun _ => ?_)
  clear hK K
  (try go_frame)
  refine tky 9 (some 23) (v := ?_) rfl (by kernel_rfl) (by kernel_rfl) (by kernel_rfl) (fun _ _ _ h => h) ?_ hHeld ?_
  rotate_left
  focus (intro w hSw; go_simp; (try with_reducible rfl); done)
  go_frame
  refine tky 15 (some 29) (v := ?_) rfl (by kernel_rfl) (by kernel_rfl) (by kernel_rfl) (fun _ _ _ h => h) ?_ hHeld ?_
  rotate_left
  focus (intro w hSw; go_simp; (try with_reducible rfl); done)
  go_frame
  rotate_left
  refine acons 8 rfl (fun K hK => ?_) ?_
  go_simp
  refine hK.out _ _ trivial (fun _ => ?_)
  clear hK K
  (try go_frame)
  refine tky 9 (some 23) (v := ?_) rfl (by kernel_rfl) (by kernel_rfl) (by kernel_rfl) (fun _ _ _ h => h) ?_ hHeld ?_
  rotate_left
  focus (intro w hSw; go_simp; (try with_reducible rfl); done)
  go_frame
  refine rcons 4 rfl (by kernel_rfl) (fun K hK => ?_)
  go_simp
  refine hK.out _ _ trivial (fun _ => ?_)
  clear hK K
  (try go_frame)
  refine tky 15 (some 29) (v := ?_) rfl (by kernel_rfl) (by kernel_rfl) (by kernel_rfl) (fun _ _ _ h => h) ?_ hHeld ?_
  rotate_left
  focus (intro w hSw; go_simp; (try with_reducible rfl); done)
  go_frame
  rotate_left
  exact AllReadyH.nil
  exact AllReadyH.nil
  exact AllReadyH.nil
  all_goals
    refine rcons 20 rfl (by kernel_rfl) (fun K hK => ?_)
    rw [if_pos]
    rotate_left
    focus kernel_rfl
    refine wp_appendN _ _ rfl (some ⟨g, 0, none⟩) n L HN.out rfl (by exact HSD.out) W.heap.size 1 ⟨k, s.data.toList, 0⟩ rfl (by exact HNEW.out) (by omega) ?_
    intro v' y6 hown hgrow
    obtain ⟨⟨c6, f6⟩, hfin⟩ := HFIN.out v' y6 hown hgrow
    obtain ⟨g6, n6, cap6, rfl, -, -, -⟩ := hown.formU (by simp)
    clear hown hgrow
    (try dsimp only)
    refine hK.out _ _ trivial (fun _ => ?_)
    clear hK K
    (try go_frame)
    refine tky 21 (some 35) (v := ?_) rfl (by kernel_rfl) (by kernel_rfl) (by kernel_rfl) (fun _ _ _ h => h) ?_ hHeld ?_
    rotate_left
    focus (intro w hSw; go_simp; (try with_reducible rfl); done)
    go_frame
    refine tky 22 (some 36) (v := ?_) rfl (by kernel_rfl) (by kernel_rfl) (by kernel_rfl) (fun _ _ _ h => h) ?_ hHeld ?_
    rotate_left
    focus (intro w hSw; go_simp; (try with_reducible rfl); done)
    go_frame
    refine rcons 23 rfl (by kernel_rfl) (fun K hK => ?_)
    go_simp
    refine hK.out _ _ trivial (fun _ => ?_)
    clear hK K
    (try go_frame)
    refine wpAnyH_done (by kernel_rfl) ?_ _
    go_wp2_with fail
    rw [rounds_succ]
    go_wp2_with fail
    go_end0
    exact ⟨rfl, ⟨_, hfin.1⟩, hfin.2⟩
set_option maxRecDepth 100000 in
set_option maxHeartbeats 8000000 in
theorem put_add_none (p : Nat) (ao : Option Addr) (n cap : Nat) (L : List Tok) (k : UInt8) (s : ByteArray) (lb cl : Nat) (W : World) (hao : ao = none ∧ n = 0 ∧ cap = 0) (hn : n = L.length) (hcap : n ≤ cap) (h : PutS p (.slice ao n cap) L W) (hl : W.cell? ⟨lb, 0, none⟩ = some (.string s)) (hlb : lb ≠ p) (hL : L.length ≤ 100000) :
    Calls Tryz.prog 39 #[.pointer (some ⟨p, 0, none⟩), .int .u8 (k.toNat : Int), .slice (some ⟨lb, 0, none⟩) 1 cl] W fun x W' => x = .returned (.tuple #[]) ∧ (∃ v', PutS p v' (L ++ [⟨k, s.data.toList, 0⟩]) W') ∧ RK p W W' := by
  obtain ⟨kd, hkd⟩ : ∃ kd : Int, (k.toNat : Int) = kd := ⟨_, rfl⟩
  rw [hkd]
  have HKD := Lib.hid hkd
  obtain ⟨rfl, rfl, rfl⟩ := hao
  have HS := Lib.hid h
  have HN := Lib.hid hn
  have hp := h.lt
  have c0 := h.cell
  have f0 : W.frozen? ⟨p, 0, none⟩ = false := Lib.frozen_of_heap h.1 0
  have hsl : TokSl (.slice none 0 0) L W := by
    exact Or.inl ⟨none, 0, rfl, List.eq_nil_of_length_eq_zero hn.symm, fun _ => rfl⟩
  have HSL := Lib.hid hsl
  clear h hn hkd hsl
  have c0d : W.drew.cell? ⟨p, 0, none⟩ = some (.slice none 0 0) := c0
  have c0e : ∀ o, (W.drew.alloc o).cell? ⟨p, 0, none⟩ = some (.slice none 0 0) := fun o => by
    rw [World.cell?_alloc_lt _ _ _ (by exact hp)]; exact c0
  have HFIN : Hid (∀ v' y6, OwnT (W.drew.alloc (.cells #[.int .u8 kd, .string s, .int .i64 0] 72 (0, 0))).heap.size v' (L ++ [⟨k, s.data.toList, 0⟩]) y6 → (W.drew.alloc (.cells #[.int .u8 kd, .string s, .int .i64 0] 72 (0, 0))).grownBy y6 none → (y6.cell? ⟨p, 0, none⟩ = some (.slice none 0 0) ∧ y6.frozen? ⟨p, 0, none⟩ = false) ∧ PutS p v' (L ++ [⟨k, s.data.toList, 0⟩]) (y6.setCell ⟨p, 0, none⟩ v') ∧ RK p W (y6.setCell ⟨p, 0, none⟩ v')) := Lib.hid (fun v' y6 ho hg => by
    have hpd : p < (W.drew.alloc (.cells #[.int .u8 kd, .string s, .int .i64 0] 72 (0, 0))).heap.size := by simp; exact Nat.lt_succ_of_lt hp
    have hb : (W.drew.alloc (.cells #[.int .u8 kd, .string s, .int .i64 0] 72 (0, 0))).heap[p]? = some (.cells #[.slice none 0 0] 78 (0, 0)) := heap_old HS.out.1
    have h6 := (hg.block p hpd (by intro e; cases e)).trans hb
    have hk1 : RK p W (W.drew.alloc (.cells #[.int .u8 kd, .string s, .int .i64 0] 72 (0, 0))) := ⟨(below_dN 1 (Below.refl p W)).alloc (by exact Nat.le_of_lt hp) _, fun j o hj _ => heap_old hj⟩
    have hk2 : RK p W y6 := hk1.trans (RK.grownN hg (Nat.le_of_lt hpd))
    refine ⟨⟨Lib.cell_of_heap h6 0, Lib.frozen_of_heap h6 0⟩, ⟨pset h6 _ rfl, (ho.lessU (by omega)).rk (RK.set p 0 y6 v') (Nat.lt_succ_self p)⟩, hk2.trans (RK.set p 0 y6 v')⟩)
  have HNEW : Hid ((W.drew.alloc (.cells #[.int .u8 kd, .string s, .int .i64 0] 72 (0, 0))).heap[W.heap.size]? = some (.cells #[.int .u8 (((⟨k, s.data.toList, 0⟩ : Tok).kind.toNat : Nat) : Int), .string ⟨(⟨k, s.data.toList, 0⟩ : Tok).text.toArray⟩, .int .i64 (⟨k, s.data.toList, 0⟩ : Tok).pos] 72 (0, 0))) := Lib.hid (by
    rw [show (((⟨k, s.data.toList, 0⟩ : Tok).kind.toNat : Nat) : Int) = kd from HKD.out]
    exact heap_alloc_last W.drew _)
  have HSD := Lib.hid (HSL.out.below ((below_dN 1 (Below.refl W.heap.size W)).alloc (Nat.le_refl _) (.cells #[.int .u8 kd, .string s, .int .i64 0] 72 (0, 0))))
  go_enter Tryz.func39, Tryz.ntmps39
  go_wp2_with fail
  refine wp_loop_rounds 2 ?_
  rw [rounds_succ]
  go_wp2_with fail
  refine wp_region_held_drew (S := fun _ => True) (by kernel_rfl) trivial (fun hHeld => ?_)
  refine tky 0 (some 14) (v := ?_) rfl (by kernel_rfl) (by kernel_rfl) (by kernel_rfl) (fun _ _ _ h => h) ?_ hHeld ?_
  rotate_left
  focus (intro w hSw; go_simp; (try with_reducible rfl); done)
  go_frame
  refine tky 1 (some 15) (v := ?_) rfl (by kernel_rfl) (by kernel_rfl) (by kernel_rfl) (fun _ _ _ h => h) ?_ hHeld ?_
  rotate_left
  focus (intro w hSw; go_simp; (try with_reducible rfl); done)
  go_frame
  refine tky 2 (some 16) (v := ?_) rfl (by kernel_rfl) (by kernel_rfl) (by kernel_rfl) (fun _ _ _ h => h) ?_ hHeld ?_
  rotate_left
  focus (intro w hSw; go_simp; (try with_reducible rfl); done)
  go_frame
  refine tky 3 (some 17) (v := ?_) rfl (by kernel_rfl) (by kernel_rfl) (by kernel_rfl) (fun _ _ _ h => h) ?_ hHeld ?_
  rotate_left
  focus (intro w hSw; go_simp; (try with_reducible rfl); done)
  go_frame
  refine tky 5 (some 19) (v := ?_) rfl (by kernel_rfl) (by kernel_rfl) (by kernel_rfl) (fun _ _ _ h => h) ?_ hHeld ?_
  rotate_left
  focus (intro w hSw; go_simp; (try with_reducible rfl); done)
  go_frame
  refine tky 6 (some 20) (v := ?_) rfl (by kernel_rfl) (by kernel_rfl) (by kernel_rfl) (fun _ _ _ h => h) ?_ hHeld ?_
  rotate_left
  focus (intro w hSw; go_simp; (try with_reducible rfl); done)
  go_frame
  refine tky 7 (some 21) (v := ?_) rfl (by kernel_rfl) (by kernel_rfl) (by kernel_rfl) (fun _ _ _ h => h) ?_ hHeld ?_
  rotate_left
  focus (intro w hSw; go_simp; (try with_reducible rfl); done)
  go_frame
  refine tky 10 (some 24) (v := ?_) rfl (by kernel_rfl) (by kernel_rfl) (by kernel_rfl) (fun _ _ _ h => h) ?_ hHeld ?_
  rotate_left
  focus (intro w hSw; go_simp; (try with_reducible rfl); done)
  go_frame
  refine tky 11 (some 25) (v := ?_) rfl (by kernel_rfl) (by kernel_rfl) (by kernel_rfl) (fun _ _ _ h => h) ?_ hHeld ?_
  rotate_left
  focus (intro w hSw; go_simp; (try with_reducible rfl); done)
  go_frame
  refine tky 12 (some 26) (v := ?_) rfl (by kernel_rfl) (by kernel_rfl) (by kernel_rfl) (fun _ _ _ h => h) ?_ hHeld ?_
  rotate_left
  focus (intro w hSw; go_simp; (try with_reducible rfl); done)
  go_frame
  refine tky 16 (some 30) (v := ?_) rfl (by kernel_rfl) (by kernel_rfl) (by kernel_rfl) (fun _ _ _ h => h) ?_ hHeld ?_
  rotate_left
  focus (intro w hSw; go_simp; (try with_reducible rfl); done)
  go_frame
  refine tky 17 (some 31) (v := ?_) rfl (by kernel_rfl) (by kernel_rfl) (by kernel_rfl) (fun _ _ _ h => h) ?_ hHeld ?_
  rotate_left
  focus (intro w hSw; go_simp; (try with_reducible rfl); done)
  go_frame
  refine tky 18 (some 32) (v := ?_) rfl (by kernel_rfl) (by kernel_rfl) (by kernel_rfl) (fun _ _ _ h => h) ?_ hHeld ?_
  rotate_left
  focus (intro w hSw; go_simp; (try with_reducible rfl); done)
  go_frame
  refine wpAnyH_ready (rs := [4, 8, 13, 19]) (by kernel_rfl) (by simp) ?_
  refine acons 4 rfl (fun K hK => ?_) ?_
  go_simp
  refine hK.out _ _ trivial (fun _ => ?_)
  clear hK K
  (try go_frame)
  refine wpAnyH_ready (rs := [8, 13, 19]) (by kernel_rfl) (by simp) ?_
  refine acons 8 rfl (fun K hK => ?_) ?_
  go_simp
  refine hK.out _ _ trivial (fun _ => ?_)
  clear hK K
  (try go_frame)
  refine tky 9 (some 23) (v := ?_) rfl (by kernel_rfl) (by kernel_rfl) (by kernel_rfl) (fun _ _ _ h => h) ?_ hHeld ?_
  rotate_left
  focus (intro w hSw; go_simp; (try with_reducible rfl); done)
  go_frame
  refine wpAnyH_ready (rs := [13, 19]) (by kernel_rfl) (by simp) ?_
  refine acons 13 rfl (fun K hK => ?_) ?_
  go_simp
  refine hK.out _ _ trivial (fun _ => ?_)
  clear hK K
  (try go_frame)
  refine tky 14 (some 28) (v := ?_) rfl (by kernel_rfl) (by kernel_rfl) (by kernel_rfl) (fun _ _ _ h => h) ?_ hHeld ?_
  rotate_left
  focus (intro w hSw; go_simp; (try with_reducible rfl); done)
  go_frame
  refine tky 15 (some 29) (v := ?_) rfl (by kernel_rfl) (by kernel_rfl) (by kernel_rfl) (fun _ _ _ h => h) ?_ hHeld ?_
  rotate_left
  focus (intro w hSw; go_simp; (try with_reducible rfl); done)
  go_frame
  refine rcons 19 rfl (by kernel_rfl) (fun K hK => ?_)
  go_simp
  refine hK.out _ _ trivial (fun _ => ?_)
  clear hK K
  (try go_frame)
  rotate_left
  refine acons 19 rfl (fun K hK => ?_) ?_
  go_simp
  refine hK.out _ _ trivial (fun _ => ?_)
  clear hK K
  (try go_frame)
  refine rcons 13 rfl (by kernel_rfl) (fun K hK => ?_)
  go_simp
  refine hK.out _ _ trivial (fun _ => ?_)
  clear hK K
  (try go_frame)
  refine tky 14 (some 28) (v := ?_) rfl (by kernel_rfl) (by kernel_rfl) (by kernel_rfl) (fun _ _ _ h => h) ?_ hHeld ?_
  rotate_left
  focus (intro w hSw; go_simp; (try with_reducible rfl); done)
  go_frame
  refine tky 15 (some 29) (v := ?_) rfl (by kernel_rfl) (by kernel_rfl) (by kernel_rfl) (fun _ _ _ h => h) ?_ hHeld ?_
  rotate_left
  focus (intro w hSw; go_simp; (try with_reducible rfl); done)
  go_frame
  rotate_left
  exact AllReadyH.nil
  refine acons 13 rfl (fun K hK => ?_) ?_
  go_simp
  refine hK.out _ _ trivial (fun _ => ?_)
  clear hK K
  (try go_frame)
  refine tky 14 (some 28) (v := ?_) rfl (by kernel_rfl) (by kernel_rfl) (by kernel_rfl) (fun _ _ _ h => h) ?_ hHeld ?_
  rotate_left
  focus (intro w hSw; go_simp; (try with_reducible rfl); done)
  go_frame
  refine wpAnyH_ready (rs := [8, 19]) (by kernel_rfl) (by simp) ?_
  refine acons 8 rfl (fun K hK => ?_) ?_
  go_simp
  refine hK.out _ _ trivial (fun _ => ?_)
  clear hK K
  (try go_frame)
  refine tky 9 (some 23) (v := ?_) rfl (by kernel_rfl) (by kernel_rfl) (by kernel_rfl) (fun _ _ _ h => h) ?_ hHeld ?_
  rotate_left
  focus (intro w hSw; go_simp; (try with_reducible rfl); done)
  go_frame
  refine tky 15 (some 29) (v := ?_) rfl (by kernel_rfl) (by kernel_rfl) (by kernel_rfl) (fun _ _ _ h => h) ?_ hHeld ?_
  rotate_left
  focus (intro w hSw; go_simp; (try with_reducible rfl); done)
  go_frame
  refine rcons 19 rfl (by kernel_rfl) (fun K hK => ?_)
  go_simp
  refine hK.out _ _ trivial (fun _ => ?_)
  clear hK K
  (try go_frame)
  rotate_left
  refine acons 19 rfl (fun K hK => ?_) ?_
  go_simp
  refine hK.out _ _ trivial (fun _ => ?_)
  clear hK K
  (try go_frame)
  refine rcons 8 rfl (by kernel_rfl) (fun K hK => ?_)
  go_simp
  refine hK.out _ _ trivial (fun _ => ?_)
  clear hK K
  (try go_frame)
  refine tky 9 (some 23) (v := ?_) rfl (by kernel_rfl) (by kernel_rfl) (by kernel_rfl) (fun _ _ _ h => h) ?_ hHeld ?_
  rotate_left
  focus (intro w hSw; go_simp; (try with_reducible rfl); done)
  go_frame
  refine tky 15 (some 29) (v := ?_) rfl (by kernel_rfl) (by kernel_rfl) (by kernel_rfl) (fun _ _ _ h => h) ?_ hHeld ?_
  rotate_left
  focus (intro w hSw; go_simp; (try with_reducible rfl); done)
  go_frame
  rotate_left
  exact AllReadyH.nil
  refine acons 19 rfl (fun K hK => ?_) ?_
  go_simp
  refine hK.out _ _ trivial (fun _ => ?_)
  clear hK K
  (try go_frame)
  refine wpAnyH_ready (rs := [8, 13]) (by kernel_rfl) (by simp) ?_
  refine acons 8 rfl (fun K hK => ?_) ?_
  go_simp
  refine hK.out _ _ trivial (fun _ => ?_)
  clear hK K
  (try go_frame)
  refine tky 9 (some 23) (v := ?_) rfl (by kernel_rfl) (by kernel_rfl) (by kernel_rfl) (fun _ _ _ h => h) ?_ hHeld ?_
  rotate_left
  focus (intro w hSw; go_simp; (try with_reducible rfl); done)
  go_frame
  refine rcons 13 rfl (by kernel_rfl) (fun K hK => ?_)
  go_simp
  refine hK.out _ _ trivial (fun _ => ?_)
  clear hK K
  (try go_frame)
  refine tky 14 (some 28) (v := ?_) rfl (by kernel_rfl) (by kernel_rfl) (by kernel_rfl) (fun _ _ _ h => h) ?_ hHeld ?_
  rotate_left
  focus (intro w hSw; go_simp; (try with_reducible rfl); done)
  go_frame
  refine tky 15 (some 29) (v := ?_) rfl (by kernel_rfl) (by kernel_rfl) (by kernel_rfl) (fun _ _ _ h => h) ?_ hHeld ?_
  rotate_left
  focus (intro w hSw; go_simp; (try with_reducible rfl); done)
  go_frame
  rotate_left
  refine acons 13 rfl (fun K hK => ?_) ?_
  go_simp
  refine hK.out _ _ trivial (fun _ => ?_)
  clear hK K
  (try go_frame)
  refine tky 14 (some 28) (v := ?_) rfl (by kernel_rfl) (by kernel_rfl) (by kernel_rfl) (fun _ _ _ h => h) ?_ hHeld ?_
  rotate_left
  focus (intro w hSw; go_simp; (try with_reducible rfl); done)
  go_frame
  refine rcons 8 rfl (by kernel_rfl) (fun K hK => ?_)
  go_simp
  refine hK.out _ _ trivial (fun _ => ?_)
  clear hK K
  (try go_frame)
  refine tky 9 (some 23) (v := ?_) rfl (by kernel_rfl) (by kernel_rfl) (by kernel_rfl) (fun _ _ _ h => h) ?_ hHeld ?_
  rotate_left
  focus (intro w hSw; go_simp; (try with_reducible rfl); done)
  go_frame
  refine tky 15 (some 29) (v := ?_) rfl (by kernel_rfl) (by kernel_rfl) (by kernel_rfl) (fun _ _ _ h => h) ?_ hHeld ?_
  rotate_left
  focus (intro w hSw; go_simp; (try with_reducible rfl); done)
  go_frame
  rotate_left
  exact AllReadyH.nil
  exact AllReadyH.nil
  refine acons 8 rfl (fun K hK => ?_) ?_
  go_simp
  refine hK.out _ _ trivial (fun _ => ?_)
  clear hK K
  (try go_frame)
  refine tky 9 (some 23) (v := ?_) rfl (by kernel_rfl) (by kernel_rfl) (by kernel_rfl) (fun _ _ _ h => h) ?_ hHeld ?_
  rotate_left
  focus (intro w hSw; go_simp; (try with_reducible rfl); done)
  go_frame
  refine wpAnyH_ready (rs := [4, 13, 19]) (by kernel_rfl) (by simp) ?_
  refine acons 4 rfl (fun K hK => ?_) ?_
  go_simp
  refine hK.out _ _ trivial (fun _ => ?_)
  clear hK K
  (try go_frame)
  refine wpAnyH_ready (rs := [13, 19]) (by kernel_rfl) (by simp) ?_
  refine acons 13 rfl (fun K hK => ?_) ?_
  go_simp
  refine hK.out _ _ trivial (fun _ => ?_)
  clear hK K
  (try go_frame)
  refine tky 14 (some 28) (v := ?_) rfl (by kernel_rfl) (by kernel_rfl) (by kernel_rfl) (fun _ _ _ h => h) ?_ hHeld ?_
  rotate_left
  focus (intro w hSw; go_simp; (try with_reducible rfl); done)
  go_frame
  refine tky 15 (some 29) (v := ?_) rfl (by kernel_rfl) (by kernel_rfl) (by kernel_rfl) (fun _ _ _ h => h) ?_ hHeld ?_
  rotate_left
  focus (intro w hSw; go_simp; (try with_reducible rfl); done)
  go_frame
  refine rcons 19 rfl (by kernel_rfl) (fun K hK => ?_)
  go_simp
  refine hK.out _ _ trivial (fun _ => ?_)
  clear hK K
  (try go_frame)
  rotate_left
  refine acons 19 rfl (fun K hK => ?_) ?_
  go_simp
  refine hK.out _ _ trivial (fun _ => ?_)
  clear hK K
  (try go_frame)
  refine rcons 13 rfl (by kernel_rfl) (fun K hK => ?_)
  go_simp
  refine hK.out _ _ trivial (fun _ => ?_)
  clear hK K
  (try go_frame)
  refine tky 14 (some 28) (v := ?_) rfl (by kernel_rfl) (by kernel_rfl) (by kernel_rfl) (fun _ _ _ h => h) ?_ hHeld ?_
  rotate_left
  focus (intro w hSw; go_simp; (try with_reducible rfl); done)
  go_frame
  refine tky 15 (some 29) (v := ?_) rfl (by kernel_rfl) (by kernel_rfl) (by kernel_rfl) (fun _ _ _ h => h) ?_ hHeld ?_
  rotate_left
  focus (intro w hSw; go_simp; (try with_reducible rfl); done)
  go_frame
  rotate_left
  exact AllReadyH.nil
  refine acons 13 rfl (fun K hK => ?_) ?_
  go_simp
  refine hK.out _ _ trivial (fun _ => ?_)
  clear hK K
  (try go_frame)
  refine tky 14 (some 28) (v := ?_) rfl (by kernel_rfl) (by kernel_rfl) (by kernel_rfl) (fun _ _ _ h => h) ?_ hHeld ?_
  rotate_left
  focus (intro w hSw; go_simp; (try with_reducible rfl); done)
  go_frame
  refine wpAnyH_ready (rs := [4, 19]) (by kernel_rfl) (by simp) ?_
  refine acons 4 rfl (fun K hK => ?_) ?_
  go_simp
  refine hK.out _ _ trivial (fun _ => ?_)
  clear hK K
  (try go_frame)
  refine tky 15 (some 29) (v := ?_) rfl (by kernel_rfl) (by kernel_rfl) (by kernel_rfl) (fun _ _ _ h => h) ?_ hHeld ?_
  rotate_left
  focus (intro w hSw; go_simp; (try with_reducible rfl); done)
  go_frame
  refine rcons 19 rfl (by kernel_rfl) (fun K hK => ?_)
  go_simp
  refine hK.out _ _ trivial (fun _ => ?_)
  clear hK K
  (try go_frame)
  rotate_left
  refine acons 19 rfl (fun K hK => ?_) ?_
  go_simp
  refine hK.out _ _ trivial (fun _ => ?_)
  clear hK K
  (try go_frame)
  refine rcons 4 rfl (by kernel_rfl) (fun K hK => ?_)
  go_simp
  refine hK.out _ _ trivial (fun _ => ?_)
  clear hK K
  (try go_frame)
  refine tky 15 (some 29) (v := ?_) rfl (by kernel_rfl) (by kernel_rfl) (by kernel_rfl) (fun _ _ _ h => h) ?_ hHeld ?_
  rotate_left
  focus (intro w hSw; go_simp; (try with_reducible rfl); done)
  go_frame
  rotate_left
  exact AllReadyH.nil
  refine acons 19 rfl (fun K hK => ?_) ?_
  go_simp
  refine hK.out _ _ trivial (fun _ => ?_)
  clear hK K
  (try go_frame)
  refine wpAnyH_ready (rs := [4, 13]) (by kernel_rfl) (by simp) ?_
  refine acons 4 rfl (fun K hK => ?_) ?_
  go_simp
  refine hK.out _ _ trivial (fun _ => ?_)
  clear hK K
  (try go_frame)
  refine rcons 13 rfl (by kernel_rfl) (fun K hK => ?_)
  go_simp
  refine hK.out _ _ trivial (fun _ => ?_)
  clear hK K
  (try go_frame)
  refine tky 14 (some 28) (v := ?_) rfl (by kernel_rfl) (by kernel_rfl) (by kernel_rfl) (fun _ _ _ h => h) ?_ hHeld ?_
  rotate_left
  focus (intro w hSw; go_simp; (try with_reducible rfl); done)
  go_frame
  refine tky 15 (some 29) (v := ?_) rfl (by kernel_rfl) (by kernel_rfl) (by kernel_rfl) (fun _ _ _ h => h) ?_ hHeld ?_
  rotate_left
  focus (intro w hSw; go_simp; (try with_reducible rfl); done)
  go_frame
  rotate_left
  refine acons 13 rfl (fun K hK => ?_) ?_
  go_simp
  refine hK.out _ _ trivial (fun _ => ?_)
  clear hK K
  (try go_frame)
  refine tky 14 (some 28) (v := ?_) rfl (by kernel_rfl) (by kernel_rfl) (by kernel_rfl) (fun _ _ _ h => h) ?_ hHeld ?_
  rotate_left
  focus (intro w hSw; go_simp; (try with_reducible rfl); done)
  go_frame
  refine rcons 4 rfl (by kernel_rfl) (fun K hK => ?_)
  go_simp
  refine hK.out _ _ trivial (fun _ => ?_)
  clear hK K
  (try go_frame)
  refine tky 15 (some 29) (v := ?_) rfl (by kernel_rfl) (by kernel_rfl) (by kernel_rfl) (fun _ _ _ h => h) ?_ hHeld ?_
  rotate_left
  focus (intro w hSw; go_simp; (try with_reducible rfl); done)
  go_frame
  rotate_left
  exact AllReadyH.nil
  exact AllReadyH.nil
  refine acons 13 rfl (fun K hK => ?_) ?_
  go_simp
  refine hK.out _ _ trivial (fun _ => ?_)
  clear hK K
  (try go_frame)
  refine tky 14 (some 28) (v := ?_) rfl (by kernel_rfl) (by kernel_rfl) (by kernel_rfl) (fun _ _ _ h => h) ?_ hHeld ?_
  rotate_left
  focus (intro w hSw; go_simp; (try with_reducible rfl); done)
  go_frame
  refine wpAnyH_ready (rs := [4, 8, 19]) (by kernel_rfl) (by simp) ?_
  refine acons 4 rfl (fun K hK => ?_) ?_
  go_simp
  refine hK.out _ _ trivial (fun _ => ?_)
  clear hK K
  (try go_frame)
  refine wpAnyH_ready (rs := [8, 19]) (by kernel_rfl) (by simp) ?_
  refine acons 8 rfl (fun K hK => ?_) ?_
  go_simp
  refine hK.out _ _ trivial (fun _ => ?_)
  clear hK K
  (try go_frame)
  refine tky 9 (some 23) (v := ?_) rfl (by kernel_rfl) (by kernel_rfl) (by kernel_rfl) (fun _ _ _ h => h) ?_ hHeld ?_
  rotate_left
  focus (intro w hSw; go_simp; (try with_reducible rfl); done)
  go_frame
  refine tky 15 (some 29) (v := ?_) rfl (by kernel_rfl) (by kernel_rfl) (by kernel_rfl) (fun _ _ _ h => h) ?_ hHeld ?_
  rotate_left
  focus (intro w hSw; go_simp; (try with_reducible rfl); done)
  go_frame
  refine rcons 19 rfl (by kernel_rfl) (fun K hK => ?_)
  go_simp
  refine hK.out _ _ trivial (fun _ => ?_)
  clear hK K
  (try go_frame)
  rotate_left
  refine acons 19 rfl (fun K hK => ?_) ?_
  go_simp
  refine hK.out _ _ trivial (fun _ => ?_)
  clear hK K
  (try go_frame)
  refine rcons 8 rfl (by kernel_rfl) (fun K hK => ?_)
  go_simp
  refine hK.out _ _ trivial (fun _ => ?_)
  clear hK K
  (try go_frame)
  refine tky 9 (some 23) (v := ?_) rfl (by kernel_rfl) (by kernel_rfl) (by kernel_rfl) (fun _ _ _ h => h) ?_ hHeld ?_
  rotate_left
  focus (intro w hSw; go_simp; (try with_reducible rfl); done)
  go_frame
  refine tky 15 (some 29) (v := ?_) rfl (by kernel_rfl) (by kernel_rfl) (by kernel_rfl) (fun _ _ _ h => h) ?_ hHeld ?_
  rotate_left
  focus (intro w hSw; go_simp; (try with_reducible rfl); done)
  go_frame
  rotate_left
  exact AllReadyH.nil
  refine acons 8 rfl (fun K hK => ?_) ?_
  go_simp
  refine hK.out _ _ trivial (fun _ => ?_)
  clear hK K
  (try go_frame)
  refine tky 9 (some 23) (v := ?_) rfl (by kernel_rfl) (by kernel_rfl) (by kernel_rfl) (fun _ _ _ h => h) ?_ hHeld ?_
  rotate_left
  focus (intro w hSw; go_simp; (try with_reducible rfl); done)
  go_frame
  refine wpAnyH_ready (rs := [4, 19]) (by kernel_rfl) (by simp) ?_
  refine acons 4 rfl (fun K hK => ?_) ?_
  go_simp
  refine hK.out _ _ trivial (fun _ => ?_)
  clear hK K
  (try go_frame)
  refine tky 15 (some 29) (v := ?_) rfl (by kernel_rfl) (by kernel_rfl) (by kernel_rfl) (fun _ _ _ h => h) ?_ hHeld ?_
  rotate_left
  focus (intro w hSw; go_simp; (try with_reducible rfl); done)
  go_frame
  refine rcons 19 rfl (by kernel_rfl) (fun K hK => ?_)
  go_simp
  refine hK.out _ _ trivial (fun _ => ?_)
  clear hK K
  (try go_frame)
  rotate_left
  refine acons 19 rfl (fun K hK => ?_) ?_
  go_simp
  refine hK.out _ _ trivial (fun _ => ?_)
  clear hK K
  (try go_frame)
  refine rcons 4 rfl (by kernel_rfl) (fun K hK => ?_)
  go_simp
  refine hK.out _ _ trivial (fun _ => ?_)
  clear hK K
  (try go_frame)
  refine tky 15 (some 29) (v := ?_) rfl (by kernel_rfl) (by kernel_rfl) (by kernel_rfl) (fun _ _ _ h => h) ?_ hHeld ?_
  rotate_left
  focus (intro w hSw; go_simp; (try with_reducible rfl); done)
  go_frame
  rotate_left
  exact AllReadyH.nil
  refine acons 19 rfl (fun K hK => ?_) ?_
  go_simp
  refine hK.out _ _ trivial (fun _ => ?_)
  clear hK K
  (try go_frame)
  refine wpAnyH_ready (rs := [4, 8]) (by kernel_rfl) (by simp) ?_
  refine acons 4 rfl (fun K hK => ?_) ?_
  go_simp
  refine hK.out _ _ trivial (fun _ => ?_)
  clear hK K
  (try go_frame)
  refine rcons 8 rfl (by kernel_rfl) (fun K hK => ?_)
  go_simp
  refine hK.out _ _ trivial (fun _ => ?_)
  clear hK K
  (try go_frame)
  refine tky 9 (some 23) (v := ?_) rfl (by kernel_rfl) (by kernel_rfl) (by kernel_rfl) (fun _ _ _ h => h) ?_ hHeld ?_
  rotate_left
  focus (intro w hSw; go_simp; (try with_reducible rfl); done)
  go_frame
  refine tky 15 (some 29) (v := ?_) rfl (by kernel_rfl) (by kernel_rfl) (by kernel_rfl) (fun _ _ _ h => h) ?_ hHeld ?_
  rotate_left
  focus (intro w hSw; go_simp; (try with_reducible rfl); done)
  go_frame
  rotate_left
  refine acons 8 rfl (fun K hK => ?_) ?_
  go_simp
  refine hK.out _ _ trivial (fun _ => ?_)
  clear hK K
  (try go_frame)
  refine tky 9 (some 23) (v := ?_) rfl (by kernel_rfl) (by kernel_rfl) (by kernel_rfl) (fun _ _ _ h => h) ?_ hHeld ?_
  rotate_left
  focus (intro w hSw; go_simp; (try with_reducible rfl); done)
  go_frame
  refine rcons 4 rfl (by kernel_rfl) (fun K hK => ?_)
  go_simp
  refine hK.out _ _ trivial (fun _ => ?_)
  clear hK K
  (try go_frame)
  refine tky 15 (some 29) (v := ?_) rfl (by kernel_rfl) (by kernel_rfl) (by kernel_rfl) (fun _ _ _ h => h) ?_ hHeld ?_
  rotate_left
  focus (intro w hSw; go_simp; (try with_reducible rfl); done)
  go_frame
  rotate_left
  exact AllReadyH.nil
  exact AllReadyH.nil
  refine acons 19 rfl (fun K hK => ?_) ?_
  go_simp
  refine hK.out _ _ trivial (fun _ => ?_)
  clear hK K
  (try go_frame)
  refine wpAnyH_ready (rs := [4, 8, 13]) (by kernel_rfl) (by simp) ?_
  refine acons 4 rfl (fun K hK => ?_) ?_
  go_simp
  refine hK.out _ _ trivial (fun _ => ?_)
  clear hK K
  (try go_frame)
  refine wpAnyH_ready (rs := [8, 13]) (by kernel_rfl) (by simp) ?_
  refine acons 8 rfl (fun K hK => ?_) ?_
  go_simp
  refine hK.out _ _ trivial (fun _ => ?_)
  clear hK K
  (try go_frame)
  refine tky 9 (some 23) (v := ?_) rfl (by kernel_rfl) (by kernel_rfl) (by kernel_rfl) (fun _ _ _ h => h) ?_ hHeld ?_
  rotate_left
  focus (intro w hSw; go_simp; (try with_reducible rfl); done)
  go_frame
  refine rcons 13 rfl (by kernel_rfl) (fun K hK => ?_)
  go_simp
  refine hK.out _ _ trivial (fun _ => ?_)
  clear hK K
  (try go_frame)
  refine tky 14 (some 28) (v := ?_) rfl (by kernel_rfl) (by kernel_rfl) (by kernel_rfl) (fun _ _ _ h => h) ?_ hHeld ?_
  rotate_left
  focus (intro w hSw; go_simp; (try with_reducible rfl); done)
  go_frame
  refine tky 15 (some 29) (v := ?_) rfl (by kernel_rfl) (by kernel_rfl) (by kernel_rfl) (fun _ _ _ h => h) ?_ hHeld ?_
  rotate_left
  focus (intro w hSw; go_simp; (try with_reducible rfl); done)
  go_frame
  rotate_left
  refine acons 13 rfl (fun K hK => ?_) ?_
  go_simp
  refine hK.out _ _ trivial (fun _ => ?_)
  clear hK K
  (try go_frame)
  refine tky 14 (some 28) (v := ?_) rfl (by kernel_rfl) (by kernel_rfl) (by kernel_rfl) (fun _ _ _ h => h) ?_ hHeld ?_
  rotate_left
  focus (intro w hSw; go_simp; (try with_reducible rfl); done)
  go_frame
  refine rcons 8 rfl (by kernel_rfl) (fun K hK => ?_)
  go_simp
  refine hK.out _ _ trivial (fun _ => ?_)
  clear hK K
  (try go_frame)
  refine tky 9 (some 23) (v := ?_) rfl (by kernel_rfl) (by kernel_rfl) (by kernel_rfl) (fun _ _ _ h => h) ?_ hHeld ?_
  rotate_left
  focus (intro w hSw; go_simp; (try with_reducible rfl); done)
  go_frame
  refine tky 15 (some 29) (v := ?_) rfl (by kernel_rfl) (by kernel_rfl) (by kernel_rfl) (fun _ _ _ h => h) ?_ hHeld ?_
  rotate_left
  focus (intro w hSw; go_simp; (try with_reducible rfl); done)
  go_frame
  rotate_left
  exact AllReadyH.nil
  refine acons 8 rfl (fun K hK => ?_) ?_
  go_simp
  refine hK.out _ _ trivial (fun _ => ?_)
  clear hK K
  (try go_frame)
  refine tky 9 (some 23) (v := ?_) rfl (by kernel_rfl) (by kernel_rfl) (by kernel_rfl) (fun _ _ _ h => h) ?_ hHeld ?_
  rotate_left
  focus (intro w hSw; go_simp; (try with_reducible rfl); done)
  go_frame
  refine wpAnyH_ready (rs := [4, 13]) (by kernel_rfl) (by simp) ?_
  refine acons 4 rfl (fun K hK => ?_) ?_
  go_simp
  refine hK.out _ _ trivial (fun _ => ?_)
  clear hK K
  (try go_frame)
  refine rcons 13 rfl (by kernel_rfl) (fun K hK => ?_)
  go_simp
  refine hK.out _ _ trivial (fun _ => ?_)
  clear hK K
  (try go_frame)
  refine tky 14 (some 28) (v := ?_) rfl (by kernel_rfl) (by kernel_rfl) (by kernel_rfl) (fun _ _ _ h => h) ?_ hHeld ?_
  rotate_left
  focus (intro w hSw; go_simp; (try with_reducible rfl); done)
  go_frame
  refine tky 15 (some 29) (v := ?_) rfl (by kernel_rfl) (by kernel_rfl) (by kernel_rfl) (fun _ _ _ h => h) ?_ hHeld ?_
  rotate_left
  focus (intro w hSw; go_simp; (try with_reducible rfl); done)
  go_frame
  rotate_left
  refine acons 13 rfl (fun K hK => ?_) ?_
  go_simp
  refine hK.out _ _ trivial (fun _ => ?_)
  clear hK K
  (try go_frame)
  refine tky 14 (some 28) (v := ?_) rfl (by kernel_rfl) (by kernel_rfl) (by kernel_rfl) (fun _ _ _ h => h) ?_ hHeld ?_
  rotate_left
  focus (intro w hSw; go_simp; (try with_reducible rfl); done)
  go_frame
  refine rcons 4 rfl (by kernel_rfl) (fun K hK => ?_)
  go_simp
  refine hK.out _ _ trivial (fun _ => ?_)
  clear hK K
  (try go_frame)
  refine tky 15 (some 29) (v := ?_) rfl (by kernel_rfl) (by kernel_rfl) (by kernel_rfl) (fun _ _ _ h => h) ?_ hHeld ?_
  rotate_left
  focus (intro w hSw; go_simp; (try with_reducible rfl); done)
  go_frame
  rotate_left
  exact AllReadyH.nil
  refine acons 13 rfl (fun K hK => ?_) ?_
  go_simp
  refine hK.out _ _ trivial (fun _ => ?_)
  clear hK K
  (try go_frame)
  refine tky 14 (some 28) (v := ?_) rfl (by kernel_rfl) (by kernel_rfl) (by kernel_rfl) (fun _ _ _ h => h) ?_ hHeld ?_
  rotate_left
  focus (intro w hSw; go_simp; (try with_reducible rfl); done)
  go_frame
  refine wpAnyH_ready (rs := [4, 8]) (by kernel_rfl) (by simp) ?_
  refine acons 4 rfl (fun K hK => ?_) ?_
  go_simp
  refine hK.out _ _ trivial (fun _ => ?_)
  clear hK K
  (try go_frame)
  refine rcons 8 rfl (by kernel_rfl) (fun K hK => ?_)
  go_simp
  refine hK.out _ _ trivial (fun _ => ?_)
  clear hK K
  (try go_frame)
  refine tky 9 (some 23) (v := ?_) rfl (by kernel_rfl) (by kernel_rfl) (by kernel_rfl) (fun _ _ _ h => h) ?_ hHeld ?_
  rotate_left
  focus (intro w hSw; go_simp; (try with_reducible rfl); done)
  go_frame
  refine tky 15 (some 29) (v := ?_) rfl (by kernel_rfl) (by kernel_rfl) (by kernel_rfl) (fun _ _ _ h => h) ?_ hHeld ?_
  rotate_left
  focus (intro w hSw; go_simp; (try with_reducible rfl); done)
  go_frame
  rotate_left
  refine acons 8 rfl (fun K hK => ?_) ?_
  go_simp
  refine hK.out _ _ trivial (fun _ => ?_)
  clear hK K
  (try go_frame)
  refine tky 9 (some 23) (v := ?_) rfl (by kernel_rfl) (by kernel_rfl) (by kernel_rfl) (fun _ _ _ h => h) ?_ hHeld ?_
  rotate_left
  focus (intro w hSw; go_simp; (try with_reducible rfl); done)
  go_frame
  refine rcons 4 rfl (by kernel_rfl) (fun K hK => ?_)
  go_simp
  refine hK.out _ _ trivial (fun _ => ?_)
  clear hK K
  (try go_frame)
  refine tky 15 (some 29) (v := ?_) rfl (by kernel_rfl) (by kernel_rfl) (by kernel_rfl) (fun _ _ _ h => h) ?_ hHeld ?_
  rotate_left
  focus (intro w hSw; go_simp; (try with_reducible rfl); done)
  go_frame
  rotate_left
  exact AllReadyH.nil
  exact AllReadyH.nil
  exact AllReadyH.nil
  all_goals
    refine rcons 20 rfl (by kernel_rfl) (fun K hK => ?_)
    rw [if_pos]
    rotate_left
    focus kernel_rfl
    refine wp_appendN _ _ rfl none 0 L HN.out rfl (by exact HSD.out) W.heap.size 1 ⟨k, s.data.toList, 0⟩ rfl (by exact HNEW.out) (by omega) ?_
    intro v' y6 hown hgrow
    obtain ⟨⟨c6, f6⟩, hfin⟩ := HFIN.out v' y6 hown hgrow
    obtain ⟨g6, n6, cap6, rfl, -, -, -⟩ := hown.formU (by simp)
    clear hown hgrow
    (try dsimp only)
    refine hK.out _ _ trivial (fun _ => ?_)
    clear hK K
    (try go_frame)
    refine tky 21 (some 35) (v := ?_) rfl (by kernel_rfl) (by kernel_rfl) (by kernel_rfl) (fun _ _ _ h => h) ?_ hHeld ?_
    rotate_left
    focus (intro w hSw; go_simp; (try with_reducible rfl); done)
    go_frame
    refine tky 22 (some 36) (v := ?_) rfl (by kernel_rfl) (by kernel_rfl) (by kernel_rfl) (fun _ _ _ h => h) ?_ hHeld ?_
    rotate_left
    focus (intro w hSw; go_simp; (try with_reducible rfl); done)
    go_frame
    refine rcons 23 rfl (by kernel_rfl) (fun K hK => ?_)
    go_simp
    refine hK.out _ _ trivial (fun _ => ?_)
    clear hK K
    (try go_frame)
    refine wpAnyH_done (by kernel_rfl) ?_ _
    go_wp2_with fail
    rw [rounds_succ]
    go_wp2_with fail
    go_end0
    exact ⟨rfl, ⟨_, hfin.1⟩, hfin.2⟩
end Go.Proofs.YtgaknbnhmoddcaaGreatDoor
namespace Go.Proofs.YtgaknbnhmoddcaaGreatDoor
/-- How the rounds stand: so many to come, such names, so many cells taken. -/
def KS (V : List Cel) (d1 k : Nat) (isL : Bool) (o : Option Nat) (g : Nat) (nm : List (List UInt8)) (u : Nat) : Prop := (kidsN (valN d1) isL g nm (V.drop (k + 1 + u))).map (u + ·) = o
theorem KS.start {V : List Cel} {d1 k : Nat} {isL : Bool} {o : Option Nat} {g : Nat} (h : kidsN (valN d1) isL g [] (V.drop (k + 1)) = o) : KS V d1 k isL o g [] 0 := by
  unfold KS
  rw [Nat.add_zero, ← h]
  cases kidsN (valN d1) isL g [] (V.drop (k + 1)) with
  | none => rfl
  | some n => show some (0 + n) = some n; rw [Nat.zero_add]
theorem KS.done {V : List Cel} {d1 k : Nat} {isL : Bool} {o : Option Nat} {nm : List (List UInt8)} {u : Nat} (h : KS V d1 k isL o 0 nm u) : o = some u := by
  unfold KS at h
  rw [← h]
  cases hd : V.drop (k + 1 + u) <;> rfl
theorem KS.out_ {V : List Cel} {d1 k : Nat} {isL : Bool} {o : Option Nat} {g : Nat} {nm : List (List UInt8)} {u : Nat} (h : KS V d1 k isL o (g + 1) nm u) (hp : V.length ≤ k + 1 + u) : o = none := by
  unfold KS at h
  rw [List.drop_of_length_le hp] at h
  rw [← h]; rfl
theorem KS.bad {V : List Cel} {d1 k : Nat} {isL : Bool} {o : Option Nat} {g : Nat} {nm : List (List UInt8)} {u p : Nat} (h : KS V d1 k isL o (g + 1) nm u) (hpu : p = k + 1 + u) (hp : p < V.length) (hok : okN isL nm V[p].name = false) : o = none := by
  subst hpu
  unfold KS at h
  rw [List.drop_eq_getElem_cons hp, kidsN, hok] at h
  rw [← h]; rfl
theorem KS.fail {V : List Cel} {d1 k : Nat} {isL : Bool} {o : Option Nat} {g : Nat} {nm : List (List UInt8)} {u p : Nat} (h : KS V d1 k isL o (g + 1) nm u) (hpu : p = k + 1 + u) (hp : p < V.length) (hok : okN isL nm V[p].name = true) (hv : valN d1 (V.drop p) = none) : o = none := by
  subst hpu
  unfold KS at h
  rw [List.drop_eq_getElem_cons hp, kidsN, hok, ← List.drop_eq_getElem_cons hp, hv] at h
  rw [← h]; rfl
theorem KS.next {V : List Cel} {d1 k : Nat} {isL : Bool} {o : Option Nat} {g : Nat} {nm : List (List UInt8)} {u p n : Nat} (h : KS V d1 k isL o (g + 1) nm u) (hpu : p = k + 1 + u) (hp : p < V.length) (hok : okN isL nm V[p].name = true) (hv : valN d1 (V.drop p) = some n) : KS V d1 k isL o g (V[p].name :: nm) (u + n) := by
  subst hpu
  unfold KS at h ⊢
  rw [List.drop_eq_getElem_cons hp, kidsN, hok, ← List.drop_eq_getElem_cons hp, hv] at h
  rw [← h]
  show _ = Option.map (u + ·) ((kidsN (valN d1) isL g (V[k + 1 + u].name :: nm) ((V.drop (k + 1 + u)).drop n)).map (n + ·))
  rw [List.drop_drop, show k + 1 + (u + n) = k + 1 + u + n from by omega, Option.map_map]
  congr 1
  funext x
  show u + n + x = u + (n + x)
  omega
theorem endI_none {V : List Cel} {p d : Nat} (h : valN d (V.drop p) = none) : endI V p d = -1 := by unfold endI; rw [h]
theorem endI_some {V : List Cel} {p d n : Nat} (h : valN d (V.drop p) = some n) : endI V p d = ((p + n : Nat) : Int) := by unfold endI; rw [h]
end Go.Proofs.YtgaknbnhmoddcaaGreatDoor
namespace Go.Proofs.YtgaknbnhmoddcaaGreatDoor
open Go.Lib
def nmT (s : List UInt8) : Tok := ⟨1, s, 0⟩
def mkT (s : List UInt8) : Tok := ⟨4, s, 0⟩
def litK (c : Cel) : List Tok :=
  if c.kind = 0 then [nmT [110, 117, 108, 108]] else if c.kind = 1 then [nmT (if c.num = 1 then [116, 114, 117, 101] else [102, 97, 108, 115, 101])]
  else if c.kind = 2 then [⟨2, Lib.itoa c.num, 0⟩] else if c.kind = 3 then [⟨3, c.text, 0⟩] else if c.kind = 4 then [nmT c.text] else [mkT [36], nmT c.text]
def preK (isO : Bool) (l : List Cel) : List Tok := if isO then [nmT (l.headD ⟨0, [], [], 0, 0⟩).name, mkT [58]] else []
/-- The tokens of so many items, members. -/
def kidsK (val : List Cel → Option Nat) (tk : List Cel → List Tok) (isO : Bool) : Nat → List Cel → List Tok
  | 0, _ => []
  | n + 1, l => preK isO l ++ (tk l ++ kidsK val tk isO n (l.drop ((val l).getD 0)))
def opnK (c : Cel) : Tok := mkT (if c.kind == 6 then [91] else [123])
def shtK (c : Cel) : Tok := mkT (if c.kind == 6 then [93] else [125])
def headK (kids : Cel → List Cel → List Tok) : List Cel → List Tok
  | [] => []
  | c :: r => if nestC c then opnK c :: (kids c r ++ [shtK c]) else litK c
/-- The tokens of the value that begins a list. -/
def tokK : Nat → List Cel → List Tok
  | 0 => headK fun _ _ => []
  | d + 1 => headK fun c r => kidsK (valN d) (tokK d) (!(c.kind == 6)) c.many.toNat r
theorem headK_cons (kids : Cel → List Cel → List Tok) (c : Cel) (r : List Cel) : headK kids (c :: r) = if nestC c then opnK c :: (kids c r ++ [shtK c]) else litK c := rfl
theorem tokK_zero (l : List Cel) : tokK 0 l = headK (fun _ _ => []) l := rfl
theorem tokK_more (d : Nat) (l : List Cel) : tokK (d + 1) l = headK (fun c r => kidsK (valN d) (tokK d) (!(c.kind == 6)) c.many.toNat r) l := rfl
theorem litK_len (c : Cel) : (litK c).length ≤ 2 := by
  unfold litK
  repeat' split
  all_goals simp
theorem preK_len (isO : Bool) (l : List Cel) : (preK isO l).length ≤ 2 := by
  unfold preK
  split <;> simp
theorem kidsK_len (f : List Cel → Option Nat) (tf : List Cel → List Tok) (h : ∀ l k, f l = some k → (tf l).length + 2 ≤ 4 * k) (isL isO : Bool) : ∀ (n : Nat) (nm : List (List UInt8)) (l : List Cel) (k : Nat), kidsN f isL n nm l = some k → (kidsK f tf isO n l).length ≤ 4 * k
  | 0, nm, l, k, _ => by simp [kidsK]
  | n + 1, nm, [], k, hk => by cases hk
  | n + 1, nm, c :: r, k, hk => by
    rw [kidsN] at hk
    split at hk
    · split at hk
      · cases hk
      · rename_i k1 hk1
        have h1 := h _ _ hk1
        rw [Option.map_eq_some_iff] at hk
        obtain ⟨k2, hk2, hk3⟩ := hk
        have ih := kidsK_len f tf h isL isO n _ _ k2 hk2
        rw [kidsK, hk1, Option.getD_some, List.length_append, List.length_append]
        have := preK_len isO (c :: r)
        omega
    · cases hk
/-- A value of so many cells has four times as many tokens at most. -/
theorem tokK_len : ∀ (d : Nat) (l : List Cel) (k : Nat), valN d l = some k → (tokK d l).length + 2 ≤ 4 * k
  | 0, [], k, h => by cases h
  | 0, c :: r, k, h => by
    have hk := (valN_le 0 _ _ h).1
    rw [valN_zero, headN_cons] at h
    rw [tokK_zero, headK_cons]
    cases h1 : oneC c with
    | false => rw [h1] at h; cases h
    | true =>
      cases h2 : nestC c with
      | true => rw [h1, h2] at h; cases h
      | false => rw [if_neg (by decide)]; have := litK_len c; omega
  | d + 1, [], k, h => by cases h
  | d + 1, c :: r, k, h => by
    have hk := (valN_le (d + 1) _ _ h).1
    rw [valN_more, headN_cons] at h
    rw [tokK_more, headK_cons]
    cases h1 : oneC c with
    | false => rw [h1] at h; cases h
    | true =>
      cases h2 : nestC c with
      | false => rw [if_neg (by decide)]; have := litK_len c; omega
      | true =>
        rw [h1, h2, if_pos rfl, if_pos rfl, Option.map_eq_some_iff] at h
        obtain ⟨k2, hk2, hk3⟩ := h
        rw [if_pos rfl]
        have := kidsK_len (valN d) (tokK d) (fun l k hl => tokK_len d l k hl) _ (!(c.kind == 6)) _ _ _ k2 hk2
        rw [List.length_cons, List.length_append, List.length_singleton]
        omega
end Go.Proofs.YtgaknbnhmoddcaaGreatDoor
namespace Go.Proofs.YtgaknbnhmoddcaaGreatDoor
open Go.Lib
/-- Cells whose names and texts are short. -/
def ShortV (V : List Cel) : Prop := ∀ c ∈ V, c.name.length ≤ 3000 ∧ c.text.length ≤ 3000 ∧ R c.num ∧ R c.many
theorem ShortV.drop {V : List Cel} (h : ShortV V) (n : Nat) : ShortV (V.drop n) := fun c hc => h c (List.mem_of_mem_drop hc)
/-- One round: where the next one begins. -/
theorem KS.step {V : List Cel} {d1 k : Nat} {isL : Bool} {n : Nat} {g : Nat} {nm : List (List UInt8)} {u p : Nat} (h : KS V d1 k isL (some n) (g + 1) nm u) (hpu : p = k + 1 + u) : ∃ (hp : p < V.length) (n1 : Nat), valN d1 (V.drop p) = some n1 ∧ KS V d1 k isL (some n) g (V[p].name :: nm) (u + n1) := by
  have hp : p < V.length := by
    rcases Nat.lt_or_ge p V.length with h' | h'
    · exact h'
    · have := h.out_ (by omega); cases this
  have hok : okN isL nm V[p].name = true := by
    cases ho : okN isL nm V[p].name with
    | true => rfl
    | false => have := h.bad hpu hp ho; cases this
  cases hv : valN d1 (V.drop p) with
  | none => have := h.fail hpu hp hok hv; cases this
  | some n1 => exact ⟨hp, n1, rfl, h.next hpu hp hok hv⟩
end Go.Proofs.YtgaknbnhmoddcaaGreatDoor
namespace Go.Proofs.YtgaknbnhmoddcaaGreatDoor
open Go.RowKit
theorem ib_cases (c : UInt8) : ∀ l : List UInt8, (l.contains c = true ∧ ∃ k : Nat, Lib.indexByte l c = k) ∨ (l.contains c = false ∧ Lib.indexByte l c = -1)
  | [] => Or.inr ⟨rfl, rfl⟩
  | b :: l => by
    rw [Lib.indexByte, List.contains_cons]
    by_cases hb : b = c
    · left; subst hb; exact ⟨by simp, 0, by simp⟩
    · have h1 : (b == c) = false := by simpa using hb
      have h2 : (c == b) = false := by simpa using fun e => hb e.symm
      rw [h1, h2, Bool.false_or]
      rcases ib_cases c l with ⟨g1, k, g2⟩ | ⟨g1, g2⟩
      · left
        refine ⟨g1, k + 1, ?_⟩
        rw [g2]
        have : (((k : Int)) == -1) = false := by rw [beq_eq_false_iff_ne]; omega
        simp only [Bool.false_eq_true, if_false, this]; omega
      · right
        refine ⟨g1, ?_⟩
        rw [g2]; rfl
theorem len_z (s : ByteArray) : s.data.toList.length = s.size := by rw [Array.length_toList]; rfl
theorem empty_z (s : ByteArray) : (0 < s.size ∧ ¬ s.toList = [] ∧ s.toList.isEmpty = false ∧ s.data.toList ≠ []) ∨ (s.size = 0 ∧ s.toList = [] ∧ s.toList.isEmpty = true ∧ s.data.toList = []) := by
  rw [ByteArray.toList_eq]
  have := len_z s
  cases h : s.data.toList with
  | nil => right; rw [h] at this; exact ⟨this.symm, rfl, rfl, rfl⟩
  | cons c r => left; rw [h] at this; exact ⟨by simp at this; omega, by simp, rfl, by simp⟩
def nameMs : List UInt8 := [95, 97, 98, 99, 100, 101, 102, 103, 104, 105, 106, 107, 108, 109, 110, 111, 112, 113, 114, 115, 116, 117, 118, 119, 120, 121, 122, 65, 66, 67, 68, 69, 70, 71, 72, 73, 74, 75, 76, 77, 78, 79, 80, 81, 82, 83, 84, 85, 86, 87, 88, 89, 90, 48, 49, 50, 51, 52, 53, 54, 55, 56, 57]
theorem all256' {f : UInt8 → Bool} (h : ∀ i : Fin 256, f (UInt8.ofNat i.val) = true) (c : UInt8) : f c = true := by
  have := h ⟨c.toNat, UInt8.toNat_lt c⟩
  simpa using this
theorem name_ms (c : UInt8) : nameMs.contains c = nameC c := by
  have := all256' (f := fun c => nameMs.contains c == nameC c) (by decide +kernel) c
  simpa using this
theorem head_z (s : ByteArray) (h : 0 < s.size) : s.data.toList = s[0] :: s.data.toList.drop 1 := by
  have := drop_at s 0 h
  rwa [List.drop_zero] at this
theorem ib_dig (c : UInt8) : Lib.indexByte (⟨#[48, 49, 50, 51, 52, 53, 54, 55, 56, 57]⟩ : ByteArray).data.toList c = if isDig c then ((c.toNat - 48 : Nat) : Int) else -1 := by
  have := all256' (f := fun c => Lib.indexByte (⟨#[48, 49, 50, 51, 52, 53, 54, 55, 56, 57]⟩ : ByteArray).data.toList c == if isDig c then ((c.toNat - 48 : Nat) : Int) else -1) (by decide +kernel) c
  simpa using this
theorem bytes_ext' {a : ByteArray} {l : List UInt8} (h : a.data.toList = l) : a = ⟨l.toArray⟩ := by
  obtain ⟨d⟩ := a
  have : d = l.toArray := by apply Array.ext'; simpa using h
  rw [this]
end Go.Proofs.YtgaknbnhmoddcaaGreatDoor
namespace Go.Proofs.YtgaknbnhmoddcaaGreatDoor
open Go.RowKit
theorem ix_indexByteString_run (s : ByteArray) (c : Int) (w : World) :
    (callFunc 118 #[.string s, .int .u8 c]).run Tryz.prog w = .ok (.value (.int .i64 (Lib.indexByte s.data.toList c.toNat.toUInt8))) w := by
  rw [run_callFunc_extern Tryz.func118 (by kernel_rfl) (by kernel_rfl) (by kernel_rfl) (e := Extern.BytealgIndexByte.indexByte) (by kernel_rfl), Lib.run_indexByteString]
  rfl
theorem ix_slIndexByte_any (s : ByteArray) (c : Int) (w : World) :
    Calls Tryz.prog 97 #[.string s, .int .u8 c] w fun e w' => e = .returned (.int .i64 (Lib.indexByte s.data.toList c.toNat.toUInt8)) ∧ w = w' := by
  have h := ix_indexByteString_run s c
  generalize Lib.indexByte s.data.toList c.toNat.toUInt8 = r at *
  go_enter Tryz.func97, Tryz.ntmps97
  go_wp2_with fail
  go_ret
  exact ⟨rfl, rfl⟩
theorem ix_index_one (s : ByteArray) (c : UInt8) (w : World) :
    Calls Tryz.prog 174 #[.string s, .string ⟨#[c]⟩] w fun e w' => e = .returned (.int .i64 (Lib.indexByte s.data.toList c)) ∧ w = w' := by
  by_cases h : s.data.toList = [c]
  · have hs : s = ⟨#[c]⟩ := by
      obtain ⟨d⟩ := s
      have : d = #[c] := by apply Array.ext'; simpa using h
      rw [this]
    subst hs
    have e : Lib.indexByte (⟨#[c]⟩ : ByteArray).data.toList c = 0 := by rw [h]; simp [Lib.indexByte]
    rw [e]
    go_enter Tryz.func174, Tryz.ntmps174
    go_wp2_with fail
    go_ret
    exact ⟨rfl, rfl⟩
  · have hb : ([c] == s.toList) = false := by
      rw [beq_eq_false_iff_ne, ByteArray.toList_eq]; exact fun e => h e.symm
    have H := Lib.hid (fun w => ix_slIndexByte_any s (c.toNat : Int) w)
    rw [show ((c.toNat : Int)).toNat.toUInt8 = c by simp] at H
    clear h
    go_enter Tryz.func174, Tryz.ntmps174
    go_wp2_with fail
    refine (H.out _).mono ?_; rintro e w1 ⟨rfl, rfl⟩
    go_wp2_with fail
    go_ret
    exact ⟨rfl, rfl⟩
theorem ix_sindex (s : ByteArray) (c : UInt8) (w : World) :
    Calls Tryz.prog 165 #[.string s, .string ⟨#[c]⟩] w fun e w' => e = .returned (.int .i64 (Lib.indexByte s.data.toList c)) ∧ w = w' := by
  have H := Lib.hid (fun w => ix_index_one s c w)
  generalize Lib.indexByte s.data.toList c = r at *
  go_enter Tryz.func165, Tryz.ntmps165
  go_wp2_with fail
  refine (H.out _).mono ?_; rintro e w1 ⟨rfl, rfl⟩
  go_wp2_with fail
  go_ret
  exact ⟨rfl, rfl⟩
theorem ix_contains (s : ByteArray) (c : UInt8) (w : World) :
    Calls Tryz.prog 149 #[.string s, .string ⟨#[c]⟩] w fun e w' => e = .returned (.bool (s.data.toList.contains c)) ∧ w = w' := by
  have H := fun w => ix_sindex s c w
  rcases ib_cases c s.data.toList with ⟨g1, n, g2⟩ | ⟨g1, g2⟩
  all_goals
    rw [g1]
    rw [g2] at H
    have HI := Lib.hid H
    clear H g1 g2
    go_enter Tryz.func149, Tryz.ntmps149
    go_wp2_with fail
    refine (HI.out _).mono ?_; rintro e w1 ⟨rfl, rfl⟩
    go_wp2_with fail
    go_ret
    first | exact ⟨rfl, rfl⟩ | exact ⟨ret_b (decide_eq_true (p := (0 : Int) ≤ n) (by omega)), rfl⟩
end Go.Proofs.YtgaknbnhmoddcaaGreatDoor
namespace Go.Proofs.YtgaknbnhmoddcaaGreatDoor
open Go.RowKit
theorem dw_all (p : UInt8 → Bool) : ∀ l : List UInt8, (l.dropWhile p).isEmpty = l.all p
  | [] => rfl
  | a :: l => by
    rw [List.dropWhile_cons, List.all_cons]
    cases p a with
    | true => simpa using dw_all p l
    | false => rfl
theorem dw_all2 (p : UInt8 → Bool) : ∀ l : List UInt8, (l.dropWhile p).all p = l.all p
  | [] => rfl
  | a :: l => by
    rw [List.dropWhile_cons, List.all_cons]
    cases h : p a with
    | true => simpa using dw_all2 p l
    | false => simp [h]
theorem trimS_all (l cs : List UInt8) : (Lib.trimS l cs).isEmpty = l.all (cs.contains ·) := by
  unfold Lib.trimS Lib.trimLeftS Lib.trimRightS
  rw [dw_all, List.all_reverse, dw_all2, List.all_reverse]
theorem nameC_ascii (c : UInt8) (h : nameC c = true) : c.toNat < 128 := by
  unfold nameC at h
  rw [decide_eq_true_eq] at h
  omega
theorem crune_any (c : UInt8) (h : nameC c = true) (w : World) :
    Calls Tryz.prog 120 #[.string ⟨#[95, 97, 98, 99, 100, 101, 102, 103, 104, 105, 106, 107, 108, 109, 110, 111, 112, 113, 114, 115, 116, 117, 118, 119, 120, 121, 122, 65, 66, 67, 68, 69, 70, 71, 72, 73, 74, 75, 76, 77, 78, 79, 80, 81, 82, 83, 84, 85, 86, 87, 88, 89, 90, 48, 49, 50, 51, 52, 53, 54, 55, 56, 57]⟩, .int .i32 (c.toNat : Int)] w fun e w' => e = .returned (.bool true) ∧ w = w' := by
  have ha := nameC_ascii c h
  refine (Tryz.strings_ContainsRune_ascii ⟨#[95, 97, 98, 99, 100, 101, 102, 103, 104, 105, 106, 107, 108, 109, 110, 111, 112, 113, 114, 115, 116, 117, 118, 119, 120, 121, 122, 65, 66, 67, 68, 69, 70, 71, 72, 73, 74, 75, 76, 77, 78, 79, 80, 81, 82, 83, 84, 85, 86, 87, 88, 89, 90, 48, 49, 50, 51, 52, 53, 54, 55, 56, 57]⟩ (c.toNat : Int) w (by omega) (by omega)).mono ?_
  rintro e w' ⟨h1, h2⟩
  refine ⟨?_, h2.symm⟩
  rw [h1, show ((c.toNat : Int)).toNat.toUInt8 = c by simp]
  rcases ib_cases c nameMs with ⟨g1, k, g2⟩ | ⟨g1, g2⟩
  · have : Lib.indexByte (⟨#[95, 97, 98, 99, 100, 101, 102, 103, 104, 105, 106, 107, 108, 109, 110, 111, 112, 113, 114, 115, 116, 117, 118, 119, 120, 121, 122, 65, 66, 67, 68, 69, 70, 71, 72, 73, 74, 75, 76, 77, 78, 79, 80, 81, 82, 83, 84, 85, 86, 87, 88, 89, 90, 48, 49, 50, 51, 52, 53, 54, 55, 56, 57]⟩ : ByteArray).data.toList c = k := g2
    rw [this]
    simp
  · rw [name_ms, h] at g1; cases g1
set_option maxRecDepth 100000 in
theorem nclo_any (c : UInt8) (h : nameC c = true) (w : World) :
    Calls Tryz.prog 151 #[.int .i32 (c.toNat : Int)] w fun e w' => e = .returned (.bool false) ∧ w = w' := by
  have H := Lib.hid (fun w => crune_any c h w)
  clear h
  generalize (c.toNat : Int) = n at *
  go_enter Tryz.func151, Tryz.ntmps151
  go_wp2_with fail
  refine (H.out _).mono ?_; rintro e w1 ⟨rfl, rfl⟩
  go_wp2_with fail
  go_ret
  exact ⟨rfl, rfl⟩
set_option maxRecDepth 100000 in
theorem nindex_any (s : ByteArray) (h : s.data.toList.all nameC = true) (hs : s.size ≤ 1000000) (w : World) :
    Calls Tryz.prog 175 #[.string s, .func (.func 151) #[] #[], .bool true] w fun e w' => e = .returned (.int .i64 (-1)) ∧ Below w.heap.size w w' := by
  have HA : Hid (∀ (k : Nat) (hk : k < s.size), nameC s[k] = true) := Lib.hid fun k hk => List.all_eq_true.1 h s[k] (by rw [show s[k] = s.data.toList[k]'(by rw [len_z]; exact hk) from by simp; rfl]; exact List.getElem_mem _)
  clear h
  go_enter Tryz.func175, Tryz.ntmps175
  go_wp2_with fail
  go_loopg [8] s.size (fun g v wr => ∃ k : Nat, g + k = s.size ∧ wr = w.iter s k) 
  case atStart => exact ⟨0, by omega, rfl⟩
  case round =>
    obtain ⟨k, hk, rfl⟩ := hrel
    by_cases hlt : k < s.size
    · have n0 := fun ty => run_next_ascii (P := Tryz.prog) w s k ty hlt (nameC_ascii _ (HA.out k hlt))
      have H := Lib.hid (fun w => nclo_any s[k] (HA.out k hlt) w)
      obtain ⟨g, rfl⟩ : ∃ g, gk = g + 1 := ⟨gk - 1, by omega⟩
      generalize (s[k].toNat : Int) = n at *
      go_wp2_with fail
      refine (H.out _).mono ?_; rintro e w1 ⟨rfl, rfl⟩
      clear n0
      go_wp2_with fail
      go_roundg g
      case measure => omega
      case rel => exact ⟨k + 1, by omega, rfl⟩
    · have n0 := fun ty => run_next_end (P := Tryz.prog) w s k ty hlt
      go_wp2_with fail
      go_ret
      refine ⟨rfl, ?_⟩
      unfold World.iter
      exact (Below.refl _ _).alloc (Nat.le_refl _) _
set_option maxRecDepth 100000 in
theorem ncontains_any (s : ByteArray) (h : s.data.toList.all nameC = true) (hs : s.size ≤ 1000000) (w : World) :
    Calls Tryz.prog 150 #[.string s, .func (.func 151) #[] #[]] w fun e w' => e = .returned (.bool false) ∧ Below w.heap.size w w' := by
  have H := Lib.hid (fun w => nindex_any s h hs w)
  clear h
  have HI : Hid (∀ w, Calls Tryz.prog 166 #[.string s, .func (.func 151) #[] #[]] w fun e w' => e = .returned (.int .i64 (-1)) ∧ Below w.heap.size w w') := Lib.hid fun w => by
    go_enter Tryz.func166, Tryz.ntmps166
    go_wp2_with fail
    refine (H.out _).mono ?_; rintro e w1 ⟨rfl, hb⟩
    go_wp2_with fail
    go_ret
    exact ⟨rfl, hb⟩
  go_enter Tryz.func150, Tryz.ntmps150
  go_wp2_with fail
  refine (HI.out _).mono ?_; rintro e w1 ⟨rfl, hb⟩
  go_wp2_with fail
  go_ret
  exact ⟨rfl, hb⟩
theorem cname_no (s : ByteArray) (h1 : s.toList = []) (h2 : s.toList.isEmpty = true) (w : World) :
    Calls Tryz.prog 134 #[.string s] w fun e w' => e = .returned (.bool false) ∧ Below w.heap.size w w' := by
  go_enter Tryz.func134, Tryz.ntmps134
  go_wp2_with fail
  go_ret
  exact ⟨rfl, Below.refl _ _⟩
theorem cname_trim (s : ByteArray) (hs : s.size ≤ 1000000) (w : World) :
    Calls Tryz.prog 126 #[.string s, .string ⟨#[95, 97, 98, 99, 100, 101, 102, 103, 104, 105, 106, 107, 108, 109, 110, 111, 112, 113, 114, 115, 116, 117, 118, 119, 120, 121, 122, 65, 66, 67, 68, 69, 70, 71, 72, 73, 74, 75, 76, 77, 78, 79, 80, 81, 82, 83, 84, 85, 86, 87, 88, 89, 90, 48, 49, 50, 51, 52, 53, 54, 55, 56, 57]⟩] w fun e w' => e = .returned (.string ⟨(Lib.trimS s.data.toList nameMs).toArray⟩) ∧ Below w.heap.size w w' :=
  Any.strings_Trim_laid Tryz.lays160 (by kernel_rfl) s ⟨#[95, 97, 98, 99, 100, 101, 102, 103, 104, 105, 106, 107, 108, 109, 110, 111, 112, 113, 114, 115, 116, 117, 118, 119, 120, 121, 122, 65, 66, 67, 68, 69, 70, 71, 72, 73, 74, 75, 76, 77, 78, 79, 80, 81, 82, 83, 84, 85, 86, 87, 88, 89, 90, 48, 49, 50, 51, 52, 53, 54, 55, 56, 57]⟩ w (by omega) (by decide) (ascii_of_all (by decide))
set_option maxRecDepth 100000 in
theorem cname_out (s t : ByteArray) (h1 : ¬ s.toList = []) (h2 : s.toList.isEmpty = false) (H : Hid (∀ w, Calls Tryz.prog 126 #[.string s, .string ⟨#[95, 97, 98, 99, 100, 101, 102, 103, 104, 105, 106, 107, 108, 109, 110, 111, 112, 113, 114, 115, 116, 117, 118, 119, 120, 121, 122, 65, 66, 67, 68, 69, 70, 71, 72, 73, 74, 75, 76, 77, 78, 79, 80, 81, 82, 83, 84, 85, 86, 87, 88, 89, 90, 48, 49, 50, 51, 52, 53, 54, 55, 56, 57]⟩] w fun e w' => e = .returned (.string t) ∧ Below w.heap.size w w'))
    (h3 : ¬ t.toList = []) (h4 : t.toList.isEmpty = false) (w : World) :
    Calls Tryz.prog 134 #[.string s] w fun e w' => e = .returned (.bool false) ∧ Below w.heap.size w w' := by
  go_enter Tryz.func134, Tryz.ntmps134
  go_wp2_with fail
  refine (H.out _).mono ?_; rintro e w1 ⟨rfl, hb⟩
  go_wp2_with fail
  go_ret
  exact ⟨rfl, hb⟩
set_option maxRecDepth 100000 in
theorem cname_in (s : ByteArray) (d : Bool) (hsz : 0 < s.size) (h1 : ¬ s.toList = []) (h2 : s.toList.isEmpty = false) (H : Hid (∀ w, Calls Tryz.prog 126 #[.string s, .string ⟨#[95, 97, 98, 99, 100, 101, 102, 103, 104, 105, 106, 107, 108, 109, 110, 111, 112, 113, 114, 115, 116, 117, 118, 119, 120, 121, 122, 65, 66, 67, 68, 69, 70, 71, 72, 73, 74, 75, 76, 77, 78, 79, 80, 81, 82, 83, 84, 85, 86, 87, 88, 89, 90, 48, 49, 50, 51, 52, 53, 54, 55, 56, 57]⟩] w fun e w' => e = .returned (.string ⟨#[]⟩) ∧ Below w.heap.size w w'))
    (HC : Hid (∀ w, Calls Tryz.prog 149 #[.string ⟨#[48, 49, 50, 51, 52, 53, 54, 55, 56, 57]⟩, .string (s.extract 0 1)] w fun e w' => e = .returned (.bool d) ∧ w = w'))
    (HF : Hid (∀ w, Calls Tryz.prog 150 #[.string s, .func (.func 151) #[] #[]] w fun e w' => e = .returned (.bool false) ∧ Below w.heap.size w w')) (w : World) :
    Calls Tryz.prog 134 #[.string s] w fun e w' => e = .returned (.bool !d) ∧ Below w.heap.size w w' := by
  cases d with
  | true =>
    go_enter Tryz.func134, Tryz.ntmps134
    go_wp2_with fail
    refine (H.out _).mono ?_; rintro e w1 ⟨rfl, hb⟩
    go_wp2_with fail
    refine (HC.out _).mono ?_; rintro e w2 ⟨rfl, rfl⟩
    go_wp2_with fail
    go_ret
    exact ⟨rfl, hb⟩
  | false =>
    go_enter Tryz.func134, Tryz.ntmps134
    go_wp2_with fail
    refine (H.out _).mono ?_; rintro e w1 ⟨rfl, hb⟩
    have HB := Lib.hid hb
    have hz := hb.size
    clear hb
    go_wp2_with fail
    refine (HC.out _).mono ?_; rintro e w2 ⟨rfl, rfl⟩
    go_wp2_with fail
    refine (HF.out _).mono ?_; rintro e w3 ⟨rfl, hb⟩
    have HB2 := Lib.hid (HB.out.trans (hb.mono hz))
    clear hb
    go_wp2_with fail
    go_ret
    exact ⟨rfl, HB2.out⟩
theorem dig_ms (c : UInt8) : ([48, 49, 50, 51, 52, 53, 54, 55, 56, 57] : List UInt8).contains c = isDig c := by
  have := all256' (f := fun c => ([48, 49, 50, 51, 52, 53, 54, 55, 56, 57] : List UInt8).contains c == isDig c) (by decide +kernel) c
  simpa using this
theorem cname_any (s : ByteArray) (hs : s.size ≤ 1000000) (w : World) :
    Calls Tryz.prog 134 #[.string s] w fun e w' => e = .returned (.bool (nameB s.data.toList)) ∧ Below w.heap.size w w' := by
  rcases empty_z s with ⟨h0, h1, h2, h3⟩ | ⟨h0, h1, h2, h3⟩
  · have hd := head_z s h0
    have hT := trimS_all s.data.toList nameMs
    rw [show (nameMs.contains ·) = nameC from funext name_ms] at hT
    have hnb : nameB s.data.toList = (!isDig s[0] && s.data.toList.all nameC) := by rw [hd]; rfl
    cases hall : s.data.toList.all nameC with
    | false =>
      rw [hall] at hT
      rw [hnb, hall, Bool.and_false]
      refine cname_out s ⟨(Lib.trimS s.data.toList nameMs).toArray⟩ h1 h2 (Lib.hid fun w => cname_trim s hs w) ?_ ?_ w
      · rw [ByteArray.toList_eq]; intro e
        have : Lib.trimS s.data.toList nameMs = [] := by simpa using e
        rw [this] at hT; cases hT
      · rw [ByteArray.toList_eq]; simpa using hT
    | true =>
      rw [hall] at hT
      rw [hnb, hall, Bool.and_true]
      refine cname_in s (isDig s[0]) h0 h1 h2 (Lib.hid fun w => ?_) (Lib.hid fun w => ?_) (Lib.hid fun w => ncontains_any s hall hs w) w
      · have := cname_trim s hs w
        rw [List.isEmpty_iff.1 hT] at this
        exact this
      · have he : s.extract 0 1 = ⟨#[s[0]]⟩ := by
          have hx : (s.extract 0 1).data.toList = [s[0]] := by
            have := Lib.extract_data s 0 1
            rw [this, hd]; simp
          exact bytes_ext' hx
        rw [he]
        have := ix_contains ⟨#[48, 49, 50, 51, 52, 53, 54, 55, 56, 57]⟩ s[0] w
        rw [show (⟨#[48, 49, 50, 51, 52, 53, 54, 55, 56, 57]⟩ : ByteArray).data.toList = ([48, 49, 50, 51, 52, 53, 54, 55, 56, 57] : List UInt8) from rfl, dig_ms] at this
        exact this
  · rw [h3]
    exact cname_no s h1 h2 w
end Go.Proofs.YtgaknbnhmoddcaaGreatDoor
namespace Go.Proofs.YtgaknbnhmoddcaaGreatDoor
open Go.RowKit
def ctext (k : Nat) (x : List UInt8) : Bool := if k = 3 then textB x else if k = 4 then nameB x else if k = 5 then nameB x else x.isEmpty
def cnum (k : Nat) (n : Int) : Bool := if k = 1 then (n == 0 || n == 1) else if k = 2 then true else n == 0
def cnest (k : Nat) : Bool := k == 6 || k == 7
theorem nest_kind (c : Cel) : nestC c = cnest c.kind.toNat := by
  unfold nestC cnest
  have h6 : (c.kind == 6) = (c.kind.toNat == 6) := by
    rw [Bool.eq_iff_iff, beq_iff_eq, beq_iff_eq]
    exact ⟨fun h => by rw [h]; rfl, fun h => UInt8.toNat_inj.1 h⟩
  have h7 : (c.kind == 7) = (c.kind.toNat == 7) := by
    rw [Bool.eq_iff_iff, beq_iff_eq, beq_iff_eq]
    exact ⟨fun h => by rw [h]; rfl, fun h => UInt8.toNat_inj.1 h⟩
  rw [h6, h7]
theorem one_kind (c : Cel) : oneC c = (decide (c.kind.toNat ≤ 7) && (ctext c.kind.toNat c.text && cnum c.kind.toNat c.num && (if cnest c.kind.toNat then decide (0 ≤ c.many) else c.many == 0))) := by
  have key : ∀ k : Nat, (c.kind.toNat = k) ↔ c.kind = UInt8.ofNat k ∧ k < 256 := by
    intro k
    constructor
    · intro h
      have hlt := UInt8.toNat_lt c.kind
      refine ⟨UInt8.toNat_inj.1 ?_, by omega⟩
      rw [UInt8.toNat_ofNat', h]
      omega
    · rintro ⟨h, h2⟩
      rw [h, UInt8.toNat_ofNat']
      omega
  have big : 7 < c.kind.toNat → oneC c = false := by
    intro h
    unfold oneC
    have ne : ∀ k : UInt8, k.toNat ≤ 7 → c.kind ≠ k := fun k hk e => by rw [e] at h; omega
    rw [if_neg (ne 0 (by decide)), if_neg (ne 1 (by decide)), if_neg (ne 2 (by decide)), if_neg (ne 3 (by decide)), if_neg (by rintro (e | e); exact ne 4 (by decide) e; exact ne 5 (by decide) e), if_neg (by rintro (e | e); exact ne 6 (by decide) e; exact ne 7 (by decide) e)]
  by_cases hb : c.kind.toNat ≤ 7
  · rw [decide_eq_true hb, Bool.true_and]
    have h8 : c.kind.toNat = 0 ∨ c.kind.toNat = 1 ∨ c.kind.toNat = 2 ∨ c.kind.toNat = 3 ∨ c.kind.toNat = 4 ∨ c.kind.toNat = 5 ∨ c.kind.toNat = 6 ∨ c.kind.toNat = 7 := by omega
    unfold oneC ctext cnum cnest
    rcases h8 with h | h | h | h | h | h | h | h <;> (have hk := ((key _).1 h).1; rw [h, hk]; simp; try (cases c.text <;> cases (c.many == 0) <;> simp))
  · rw [decide_eq_false hb, Bool.false_and]
    exact big (by omega)
def tfun (k : Nat) : Nat := if k = 3 then 133 else if k = 4 then 134 else if k = 5 then 134 else 129
def nfun (k : Nat) : Nat := if k = 1 then 131 else if k = 2 then 132 else 130
def kindsA : Array Value := #[.func (.func 129) #[] #[], .func (.func 130) #[] #[], .bool false, .func (.func 129) #[] #[], .func (.func 131) #[] #[], .bool false, .func (.func 129) #[] #[], .func (.func 132) #[] #[], .bool false, .func (.func 133) #[] #[], .func (.func 130) #[] #[], .bool false, .func (.func 134) #[] #[], .func (.func 130) #[] #[], .bool false, .func (.func 134) #[] #[], .func (.func 130) #[] #[], .bool false, .func (.func 129) #[] #[], .func (.func 130) #[] #[], .bool true, .func (.func 129) #[] #[], .func (.func 130) #[] #[], .bool true]
theorem kindsA_get (k : Nat) (h : k ≤ 7) : kindsA[k * 3]? = some (.func (.func (tfun k)) #[] #[]) ∧ kindsA[k * 3 + 1]? = some (.func (.func (nfun k)) #[] #[]) ∧ kindsA[k * 3 + 2]? = some (.bool (cnest k)) := by
  have h8 : k = 0 ∨ k = 1 ∨ k = 2 ∨ k = 3 ∨ k = 4 ∨ k = 5 ∨ k = 6 ∨ k = 7 := by omega
  rcases h8 with rfl | rfl | rfl | rfl | rfl | rfl | rfl | rfl <;> exact ⟨rfl, rfl, rfl⟩
theorem ent_none : ∀ args w, (callFunc 129 args).run Tryz.prog w = .ok (.enter 129 args) w := enters_of Tryz.func129 (by kernel_rfl) rfl
theorem ent_zero : ∀ args w, (callFunc 130 args).run Tryz.prog w = .ok (.enter 130 args) w := enters_of Tryz.func130 (by kernel_rfl) rfl
theorem ent_name : ∀ args w, (callFunc 134 args).run Tryz.prog w = .ok (.enter 134 args) w := enters_of Tryz.func134 (by kernel_rfl) rfl
theorem ent_k1 : ∀ args w, (callFunc 131 args).run Tryz.prog w = .ok (.enter 131 args) w := enters_of Tryz.func131 (by kernel_rfl) rfl
theorem ent_k2 : ∀ args w, (callFunc 132 args).run Tryz.prog w = .ok (.enter 132 args) w := enters_of Tryz.func132 (by kernel_rfl) rfl
theorem ent_k3 : ∀ args w, (callFunc 133 args).run Tryz.prog w = .ok (.enter 133 args) w := enters_of Tryz.func133 (by kernel_rfl) rfl
theorem tfun_ent (k : Nat) : ∀ args w, (callFunc (tfun k) args).run Tryz.prog w = .ok (.enter (tfun k) args) w := by
  unfold tfun
  split
  · exact ent_k3
  · split
    · exact ent_name
    · split
      · exact ent_name
      · exact ent_none
theorem nfun_ent (k : Nat) : ∀ args w, (callFunc (nfun k) args).run Tryz.prog w = .ok (.enter (nfun k) args) w := by
  unfold nfun
  split
  · exact ent_k1
  · split
    · exact ent_k2
    · exact ent_zero
theorem none_any (s : ByteArray) (w : World) : Calls Tryz.prog 129 #[.string s] w fun e w' => e = .returned (.bool s.data.toList.isEmpty) ∧ Below w.heap.size w w' := by
  rcases empty_z s with ⟨h0, h1, h2, h3⟩ | ⟨h0, h1, h2, h3⟩
  · have : s.data.toList.isEmpty = false := by rw [← ByteArray.toList_eq]; exact h2
    rw [this]
    go_enter Tryz.func129, Tryz.ntmps129
    go_wp2_with fail
    go_ret
    exact ⟨rfl, Below.refl _ _⟩
  · have : s.data.toList.isEmpty = true := by rw [← ByteArray.toList_eq]; exact h2
    rw [this]
    go_enter Tryz.func129, Tryz.ntmps129
    go_wp2_with fail
    go_ret
    exact ⟨rfl, Below.refl _ _⟩
theorem zero_any (n : Int) (w : World) : Calls Tryz.prog 130 #[.int .i64 n] w fun e w' => e = .returned (.bool (n == 0)) ∧ Below w.heap.size w w' := by
  go_enter Tryz.func130, Tryz.ntmps130
  go_wp2_with fail
  go_ret
  exact ⟨rfl, Below.refl _ _⟩
theorem k1_any (n : Int) (w : World) : Calls Tryz.prog 131 #[.int .i64 n] w fun e w' => e = .returned (.bool (n == 0 || n == 1)) ∧ Below w.heap.size w w' := by
  by_cases h : n = 0
  · have h0 : (n == 0) = true := beq_iff_eq.2 h
    have hr : Hid ((n == 0 || n == 1) = true) := Lib.hid (by rw [h0]; rfl)
    clear h
    go_enter Tryz.func131, Tryz.ntmps131
    go_wp2_with fail
    go_ret
    exact ⟨ret_b hr.out.symm, Below.refl _ _⟩
  · have h0 : (n == 0) = false := beq_eq_false_iff_ne.2 h
    have hr : Hid ((n == 0 || n == 1) = (n == 1)) := Lib.hid (by rw [h0]; rfl)
    clear h
    go_enter Tryz.func131, Tryz.ntmps131
    go_wp2_with fail
    go_ret
    exact ⟨ret_b hr.out.symm, Below.refl _ _⟩
theorem k2_any (n : Int) (w : World) : Calls Tryz.prog 132 #[.int .i64 n] w fun e w' => e = .returned (.bool true) ∧ Below w.heap.size w w' := by
  go_enter Tryz.func132, Tryz.ntmps132
  go_wp2_with fail
  go_ret
  exact ⟨rfl, Below.refl _ _⟩
theorem chkE_text (l : List UInt8) : textB l = (chkE l == 0) := by
  unfold textB chkE
  by_cases q : 16384 < l.length
  · rw [if_pos q, decide_eq_false (by omega)]; rfl
  · rw [if_neg q, decide_eq_true (by omega), Bool.true_and]
    cases Lib.validD l <;> rfl
theorem chkE_cases (l : List UInt8) : chkE l = 0 ∨ chkE l = 4 ∨ chkE l = 10 := by
  unfold chkE
  by_cases q : 16384 < l.length
  · rw [if_pos q]; right; left; rfl
  · rw [if_neg q]
    cases Lib.validD l
    · right; right; rfl
    · left; rfl
theorem k3_any (s : ByteArray) (hs : s.size ≤ 1000000) (w : World) (hE : EnvU w) : Calls Tryz.prog 133 #[.string s] w fun e w' => e = .returned (.bool (textB s.data.toList)) ∧ Below w.heap.size w w' := by
  have H := Lib.hid (tcheck_any s hs w hE)
  rw [chkE_text]
  have hc := chkE_cases s.data.toList
  clear hE
  generalize chkE s.data.toList = c at *
  rcases hc with rfl | rfl | rfl
  all_goals
    go_enter Tryz.func133, Tryz.ntmps133
    go_wp2_with fail
    refine H.out.mono ?_; rintro e w1 ⟨rfl, hb⟩
    go_wp2_with fail
    go_ret
    exact ⟨rfl, hb⟩
theorem tfun_any (k : Nat) (s : ByteArray) (hs : s.size ≤ 1000000) (w : World) (hE : EnvU w) : Calls Tryz.prog (tfun k) #[.string s] w fun e w' => e = .returned (.bool (ctext k s.data.toList)) ∧ Below w.heap.size w w' := by
  unfold tfun ctext
  by_cases h3 : k = 3
  · rw [if_pos h3, if_pos h3]; exact k3_any s hs w hE
  rw [if_neg h3, if_neg h3]
  by_cases h4 : k = 4
  · rw [if_pos h4, if_pos h4]; exact cname_any s hs w
  rw [if_neg h4, if_neg h4]
  by_cases h5 : k = 5
  · rw [if_pos h5, if_pos h5]; exact cname_any s hs w
  rw [if_neg h5, if_neg h5]; exact none_any s w
theorem nfun_any (k : Nat) (n : Int) (w : World) : Calls Tryz.prog (nfun k) #[.int .i64 n] w fun e w' => e = .returned (.bool (cnum k n)) ∧ Below w.heap.size w w' := by
  unfold nfun cnum
  by_cases h1 : k = 1
  · rw [if_pos h1, if_pos h1]; exact k1_any n w
  rw [if_neg h1, if_neg h1]
  by_cases h2 : k = 2
  · rw [if_pos h2, if_pos h2]; exact k2_any n w
  rw [if_neg h2, if_neg h2]; exact zero_any n w
theorem kindsA_one : kindsA.all (·.oneCell') = true := by kernel_rfl
set_option maxRecDepth 100000 in
theorem kinds_any (w : World) : Calls Tryz.prog 112 #[] w fun e w' => e = .returned (.agg kindsA) ∧ Below w.heap.size w w' := by
  have hn : Hid (∀ O, (w.alloc O).heap[w.heap.size]? = some O) := Lib.hid (heap_alloc_new w)
  go_enter Tryz.func112, Tryz.ntmps112
  go_wp2_with (refine wpList_store_row rfl 184 _ _ rfl w.heap.size kindsA rfl rfl 184 #[.nilFunc, .nilFunc, .bool false, .nilFunc, .nilFunc, .bool false, .nilFunc, .nilFunc, .bool false, .nilFunc, .nilFunc, .bool false, .nilFunc, .nilFunc, .bool false, .nilFunc, .nilFunc, .bool false, .nilFunc, .nilFunc, .bool false, .nilFunc, .nilFunc, .bool false] (hn.out _) (by kernel_rfl) rfl kindsA_one ?_)
  refine bodyPost_ret (v := .agg kindsA) (results_cell_row rfl _ _ w.heap.size 184 kindsA (0, 0) _ rfl (setRow_heap _ _ _ kindsA _ _ (hn.out _)) Tryz.underlying184 rfl (by kernel_rfl)) rfl ⟨rfl, ?_⟩
  exact below_setRow ((Below.refl _ _).alloc (Nat.le_refl _) _) (Nat.le_refl _) _
end Go.Proofs.YtgaknbnhmoddcaaGreatDoor
