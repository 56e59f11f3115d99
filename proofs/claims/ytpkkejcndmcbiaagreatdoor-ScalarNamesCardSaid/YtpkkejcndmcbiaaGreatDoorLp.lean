/- Tokens of GraphQL, plainly: what may be, and their text. No program in sight. -/
import Derived.Test.YtpkkejcndmcbiaaGreatDoorRq
import Derived.Test.YtpkkejcndmcbiaaGreatDoorTu
set_option linter.unusedSimpArgs false
set_option linter.unusedVariables false
namespace Go.Proofs.YtpkkejcndmcbiaaGreatDoor
open Go.Lib
def nameC (c : UInt8) : Bool := decide ((97 ≤ c.toNat ∧ c.toNat ≤ 122) ∨ (65 ≤ c.toNat ∧ c.toNat ≤ 90) ∨ c.toNat = 95 ∨ (48 ≤ c.toNat ∧ c.toNat ≤ 57))
/-- Is a text a name? -/
def nameB : List UInt8 → Bool
  | [] => false
  | c :: r => !isDig c && (c :: r).all nameC
def marksL : List UInt8 := [33, 36, 38, 40, 41, 58, 61, 64, 91, 93, 123, 124, 125]
def markB (l : List UInt8) : Bool := l == [46, 46, 46] || (match l with | [c] => marksL.contains c | _ => false)
def textB (l : List UInt8) : Bool := decide (l.length ≤ 16384) && validD l
/-- A token: its kind, its text, where it stood. -/
structure Tok where
  kind : UInt8
  text : List UInt8
  pos : Int
/-- May a token be? -/
def okT (t : Tok) : Bool :=
  if t.kind = 0 then t.text.isEmpty else if t.kind = 1 then nameB t.text else if t.kind = 2 then okDigits (body t.text) else if t.kind = 3 then textB t.text else if t.kind = 4 then markB t.text else false
def hexD (n : Nat) : UInt8 := if n < 10 then UInt8.ofNat (48 + n) else UInt8.ofNat (87 + n)
def quoteC (c : UInt8) : List UInt8 :=
  if c = 34 ∨ c = 92 then [92, c] else if c = 8 then [92, 98] else if c = 9 then [92, 116] else if c = 10 then [92, 110] else if c = 12 then [92, 102] else if c = 13 then [92, 114]
  else if c.toNat < 32 then [92, 117, 48, 48, hexD (c.toNat / 16), hexD (c.toNat % 16)] else [c]
/-- A text, quoted. -/
def quoteL (l : List UInt8) : List UInt8 := [34] ++ l.flatMap quoteC ++ [34]
def tellT (t : Tok) : List UInt8 := if t.kind = 3 then quoteL t.text else t.text
/-- May tokens be joined? -/
def okTs : List Tok → Bool
  | [] => true
  | [t] => okT t
  | t :: r => okT t && !(t.kind == 0) && okTs r
/-- Their text: the first, and each other one behind a blank (the end has none). -/
def restT : List Tok → List UInt8
  | [] => []
  | t :: r => (if t.kind = 0 then [] else [32]) ++ tellT t ++ restT r
def joinT : List Tok → List UInt8
  | [] => []
  | t :: r => tellT t ++ restT r
/-- Their words: none for the end. -/
def wordsT : List Tok → List (List UInt8)
  | [] => []
  | t :: r => if t.kind = 0 then wordsT r else tellT t :: wordsT r
def joinW : List (List UInt8) → List UInt8
  | [] => []
  | [x] => x
  | x :: y :: r => x ++ [32] ++ joinW (y :: r)
theorem joinW_cons (x : List UInt8) (r : List (List UInt8)) : joinW (x :: r) = x ++ (r.flatMap fun y => 32 :: y) := by
  induction r generalizing x with
  | nil => simp [joinW]
  | cons y r ih => rw [joinW, ih, List.flatMap_cons]; simp
theorem rest_words : ∀ L : List Tok, okTs L = true → restT L = (wordsT L).flatMap fun y => 32 :: y
  | [], _ => rfl
  | [t], h => by
    unfold restT wordsT
    by_cases hk : t.kind = 0
    · rw [if_pos hk, if_pos hk]
      have h' : okT t = true := h
      unfold okT at h'
      rw [if_pos hk] at h'
      have : t.text = [] := List.isEmpty_iff.1 h'
      unfold tellT restT wordsT
      rw [if_neg (by rw [hk]; decide), this]; rfl
    · rw [if_neg hk, if_neg hk]
      simp [restT, wordsT]
  | t :: u :: r, h => by
    have h' : (okT t && !(t.kind == 0) && okTs (u :: r)) = true := by simpa [okTs] using h
    simp only [Bool.and_eq_true, Bool.not_eq_true', beq_eq_false_iff_ne] at h'
    obtain ⟨⟨h1, h2⟩, h3⟩ := h'
    rw [restT, wordsT, if_neg h2, if_neg h2, rest_words (u :: r) h3, List.flatMap_cons]
    simp
theorem join_words (L : List Tok) (h : okTs L = true) : joinT L = joinW (wordsT L) := by
  cases L with
  | nil => rfl
  | cons t r =>
    by_cases hk : t.kind = 0
    · have hr : r = [] := by
        cases r with
        | nil => rfl
        | cons u r =>
          have h' : (okT t && !(t.kind == 0) && okTs (u :: r)) = true := by simpa [okTs] using h
          simp [hk] at h'
      subst hr
      have := rest_words [t] h
      rw [joinT, wordsT, if_pos hk]
      have h' : okT t = true := h
      unfold okT at h'
      rw [if_pos hk] at h'
      have ht : t.text = [] := List.isEmpty_iff.1 h'
      unfold tellT restT wordsT
      rw [if_neg (by rw [hk]; decide), ht]; rfl
    · rw [joinT, wordsT, if_neg hk, joinW_cons]
      congr 1
      cases r with
      | nil => rfl
      | cons u r =>
        have h' : (okT t && !(t.kind == 0) && okTs (u :: r)) = true := by simpa [okTs] using h
        simp only [Bool.and_eq_true] at h'
        exact rest_words (u :: r) h'.2
end Go.Proofs.YtpkkejcndmcbiaaGreatDoor
