/- Cells, plainly: which are a value, and where it ends. No program in sight. -/
import Derived.Test.YtpkkejcndmcbiaaGreatDoorLp
set_option linter.unusedSimpArgs false
set_option linter.unusedVariables false
namespace Go.Proofs.YtpkkejcndmcbiaaGreatDoor
open Go.Lib
structure Cel where
  kind : UInt8
  name : List UInt8
  text : List UInt8
  num : Int
  many : Int
/-- May a cell be, but for its name, and for what stands in it? -/
def oneC (c : Cel) : Bool :=
  if c.kind = 0 then c.text.isEmpty && c.num == 0 && c.many == 0
  else if c.kind = 1 then c.text.isEmpty && (c.num == 0 || c.num == 1) && c.many == 0
  else if c.kind = 2 then c.text.isEmpty && c.many == 0
  else if c.kind = 3 then textB c.text && c.num == 0 && c.many == 0
  else if c.kind = 4 ∨ c.kind = 5 then nameB c.text && c.num == 0 && c.many == 0
  else if c.kind = 6 ∨ c.kind = 7 then c.text.isEmpty && c.num == 0 && decide (0 ≤ c.many)
  else false
def nestC (c : Cel) : Bool := c.kind == 6 || c.kind == 7
def amongB (l : List (List UInt8)) (n : List UInt8) : Bool := l.any fun x => x == n
/-- May an item, a member, have that name, behind those that have been? -/
def okN (isL : Bool) (names : List (List UInt8)) (n : List UInt8) : Bool := if isL then n.isEmpty else !n.isEmpty && textB n && !amongB names n
/-- How many cells so many items, members, have. -/
def kidsN (val : List Cel → Option Nat) (isL : Bool) : Nat → List (List UInt8) → List Cel → Option Nat
  | 0, _, _ => some 0
  | _ + 1, _, [] => none
  | n + 1, names, c :: r =>
    if okN isL names c.name then
      match val (c :: r) with
      | none => none
      | some k => (kidsN val isL n (c.name :: names) ((c :: r).drop k)).map (k + ·)
    else none
def headN (kids : Cel → List Cel → Option Nat) : List Cel → Option Nat
  | [] => none
  | c :: r => if oneC c then (if nestC c then (kids c r).map (1 + ·) else some 1) else none
/-- How many cells the value has that begins a list, at most so many in each other. -/
def valN : Nat → List Cel → Option Nat
  | 0 => headN fun _ _ => none
  | d + 1 => headN fun c r => kidsN (valN d) (c.kind == 6) c.many.toNat [] r
theorem kidsN_le (val : List Cel → Option Nat) (hv : ∀ l k, val l = some k → 1 ≤ k ∧ k ≤ l.length) (isL : Bool) : ∀ (n : Nat) (names : List (List UInt8)) (l : List Cel) (k : Nat), kidsN val isL n names l = some k → n ≤ k ∧ k ≤ l.length
  | 0, names, l, k, h => by
    have : k = 0 := (Option.some.inj h).symm
    omega
  | n + 1, names, [], k, h => by cases h
  | n + 1, names, c :: r, k, h => by
    rw [kidsN] at h
    split at h
    · split at h
      · cases h
      · rename_i k1 hk1
        obtain ⟨g1, g2⟩ := hv _ _ hk1
        rw [Option.map_eq_some_iff] at h
        obtain ⟨k2, hk2, rfl⟩ := h
        have := kidsN_le val hv isL n _ _ k2 hk2
        rw [List.length_drop] at this
        omega
    · cases h
theorem headN_cons (kids : Cel → List Cel → Option Nat) (c : Cel) (r : List Cel) : headN kids (c :: r) = if oneC c then (if nestC c then (kids c r).map (1 + ·) else some 1) else none := rfl
theorem valN_zero (l : List Cel) : valN 0 l = headN (fun _ _ => none) l := rfl
theorem valN_more (d : Nat) (l : List Cel) : valN (d + 1) l = headN (fun c r => kidsN (valN d) (c.kind == 6) c.many.toNat [] r) l := rfl
theorem headN_le (kids : Cel → List Cel → Option Nat) (hk : ∀ c r k, kids c r = some k → k ≤ r.length) (l : List Cel) (k : Nat) (h : headN kids l = some k) : 1 ≤ k ∧ k ≤ l.length := by
  cases l with
  | nil => cases h
  | cons c r =>
    rw [headN_cons] at h
    rw [List.length_cons]
    cases h1 : oneC c with
    | false => rw [h1] at h; cases h
    | true =>
      cases h2 : nestC c with
      | false =>
        rw [h1, h2] at h
        have : k = 1 := (Option.some.inj h).symm
        omega
      | true =>
        rw [h1, h2, if_pos rfl, if_pos rfl, Option.map_eq_some_iff] at h
        obtain ⟨k2, hk2, rfl⟩ := h
        have := hk _ _ _ hk2
        omega
theorem valN_le : ∀ (d : Nat) (l : List Cel) (k : Nat), valN d l = some k → 1 ≤ k ∧ k ≤ l.length
  | 0, l, k, h => headN_le _ (fun c r k h => by cases h) l k h
  | d + 1, l, k, h => headN_le _ (fun c r k h => (kidsN_le (valN d) (valN_le d) _ _ _ _ _ h).2) l k h
/-- More may be in each other: the same cells. -/
theorem kidsN_mono (f g : List Cel → Option Nat) (hfg : ∀ l k, f l = some k → g l = some k) (isL : Bool) : ∀ (n : Nat) (names : List (List UInt8)) (l : List Cel) (k : Nat), kidsN f isL n names l = some k → kidsN g isL n names l = some k
  | 0, names, l, k, h => h
  | n + 1, names, [], k, h => h
  | n + 1, names, c :: r, k, h => by
    rw [kidsN] at h ⊢
    split at h
    · rename_i hok
      rw [if_pos hok]
      split at h
      · cases h
      · rename_i k1 hk1
        rw [hfg _ _ hk1]
        rw [Option.map_eq_some_iff] at h
        obtain ⟨k2, hk2, rfl⟩ := h
        show (kidsN g isL n _ _).map _ = _
        rw [kidsN_mono f g hfg isL n _ _ k2 hk2]; rfl
    · cases h
theorem headN_mono (f g : Cel → List Cel → Option Nat) (hfg : ∀ c r k, f c r = some k → g c r = some k) (l : List Cel) (k : Nat) (h : headN f l = some k) : headN g l = some k := by
  cases l with
  | nil => cases h
  | cons c r =>
    rw [headN_cons] at h ⊢
    cases h1 : oneC c with
    | false => rw [h1] at h; cases h
    | true =>
      cases h2 : nestC c with
      | false => rw [h1, h2] at h; exact h
      | true =>
        rw [h1, h2, if_pos rfl, if_pos rfl, Option.map_eq_some_iff] at h
        obtain ⟨k2, hk2, rfl⟩ := h
        rw [if_pos rfl, if_pos rfl, hfg _ _ _ hk2]; rfl
theorem valN_succ : ∀ (d : Nat) (l : List Cel) (k : Nat), valN d l = some k → valN (d + 1) l = some k
  | 0, l, k, h => headN_mono _ _ (fun c r k h => by cases h) l k h
  | d + 1, l, k, h => headN_mono _ _ (fun c r k h => kidsN_mono (valN d) (valN (d + 1)) (valN_succ d) _ _ _ _ _ h) l k h
theorem valN_mono {d e : Nat} (h : d ≤ e) (l : List Cel) (k : Nat) (hv : valN d l = some k) : valN e l = some k := by
  induction h with
  | refl => exact hv
  | step _ ih => exact valN_succ _ _ _ ih
/-- Are cells a value? -/
def mayB (V : List Cel) : Bool := decide (0 < V.length) && decide (V.length ≤ 2048) && (V.headD ⟨0, [0], [], 0, 0⟩).name.isEmpty && (valN 16 V == some V.length)
def plainB (V : List Cel) : Bool := mayB V && V.all fun c => !(c.kind == 4 || c.kind == 5)
/-- Where the value ends that begins at a place; below 0: there is none. -/
def endI (V : List Cel) (at_ d : Nat) : Int := match valN d (V.drop at_) with | none => -1 | some k => ((at_ + k : Nat) : Int)
end Go.Proofs.YtpkkejcndmcbiaaGreatDoor
