/- Walks and plain laws of this proof, joined from smaller texts (2). -/
import Derived.Lib.CutLaws
import Derived.WalkKit
import Derived.WalkSpells
import Derived.Handy
import Derived.Lib.Hide
import Derived.Deep.Light
import Derived.Deep.RegionHeld3
import Derived.Deep.QuietTactic
import Derived.BigQuiet
import Derived.Test.YtjhgiojmlkeccaaGreatDoorRows
import Derived.Test.YtjhgiojmlkeccaaGreatDoorShelf
import Derived.Shelf.Spec.BitsCarry
import Derived.Outline
import Derived.Laws.BitsLemmas
import Derived.Lib.Bytealg
import Derived.Lib.IndexLaws
import Derived.Lib.Strings
import Derived.Lib.IndexBytes
import Derived.Deep.LoopGhost
import Derived.Deep.RegionWith
import Derived.IntWalk
import Derived.LoopTactic
import Derived.Laws.IdiomStrings
import Derived.ScopeJumps
import Derived.Test.YtjhgiojmlkeccaaGreatDoorW1
set_option linter.unusedSimpArgs false
set_option linter.unusedVariables false
namespace Go.Proofs.YtjhgiojmlkeccaaGreatDoor
open Go.RowKit Go.Lib

def front (l : List UInt8) : List UInt8 := l.takeWhile (· != 46)
def back (l : List UInt8) : List UInt8 := (l.dropWhile (· != 46)).tail
def point (l : List UInt8) : Bool := l.contains 46
theorem front_back (l : List UInt8) (h : point l = true) : l = front l ++ 46 :: back l := by
  have hl := List.takeWhile_append_dropWhile (p := (· != 46)) (l := l)
  cases hd : l.dropWhile (· != 46) with
  | nil =>
    exfalso
    rw [hd, List.append_nil] at hl
    have hm : (46 : UInt8) ∈ l := by simpa [point] using h
    rw [← hl] at hm
    have := List.all_eq_true.1 (List.all_takeWhile (p := (· != 46)) (l := l)) 46 hm
    simp at this
  | cons c r =>
    have hc : c = 46 := by
      have := List.head_dropWhile_not (p := (· != 46)) (l := l) (by rw [hd]; simp)
      simp only [hd, List.head_cons] at this
      simpa using this
    rw [hd, hc] at hl
    unfold front back
    rw [hd]
    exact hl.symm
theorem front_none (l : List UInt8) (h : point l = false) : front l = l ∧ back l = [] := by
  have hm : ∀ x ∈ l, (x != 46) = true := fun x hx => by
    simp only [bne_iff_ne, ne_eq]; rintro rfl
    simp [point] at h; exact h hx
  have hd : l.dropWhile (· != 46) = [] := dropWhile_all (List.all_eq_true.2 hm)
  have hl := List.takeWhile_append_dropWhile (p := (· != 46)) (l := l)
  rw [hd, List.append_nil] at hl
  refine ⟨hl, ?_⟩
  unfold back
  rw [hd]; rfl
/-- A mantissa and a scale, in one way: no nought at the end behind the point. -/
def norm : Nat → Int → Int × Nat
  | 0, n => (n, 0)
  | s + 1, n => if n % 10 = 0 then norm s (n / 10) else (n, s + 1)
def may (m : Int) (s : Int) : Bool := decide (0 ≤ s ∧ s ≤ 18 ∧ (s = 0 ∨ ¬ m % 10 = 0))
def chk (m : Int) (s : Int) : Int := if may m s then 0 else 140
theorem norm_le : ∀ (s : Nat) (n : Int), (norm s n).2 ≤ s
  | 0, n => Nat.le_refl 0
  | s + 1, n => by
    rw [norm]; split
    · exact Nat.le_succ_of_le (norm_le s _)
    · exact Nat.le_refl _
theorem norm_zero : ∀ (s : Nat), norm s 0 = (0, 0)
  | 0 => rfl
  | s + 1 => by rw [norm, if_pos (by decide)]; exact norm_zero s
theorem norm_last : ∀ (s : Nat) (n : Int), (norm s n).2 = 0 ∨ ¬ (norm s n).1 % 10 = 0
  | 0, n => .inl rfl
  | s + 1, n => by
    rw [norm]; split
    · exact norm_last s _
    · rename_i h; exact .inr h
theorem norm_may (s : Nat) (n : Int) (h : s ≤ 18) : may (norm s n).1 (norm s n).2 = true := by
  have h1 := norm_le s n
  have h2 := norm_last s n
  unfold may; rw [decide_eq_true_eq]
  refine ⟨by omega, by omega, ?_⟩
  rcases h2 with h2 | h2
  · left; omega
  · exact .inr h2
theorem norm_val : ∀ (s : Nat) (n : Int), n = (norm s n).1 * 10 ^ (s - (norm s n).2)
  | 0, n => by simp [norm]
  | s + 1, n => by
    have hle := norm_le s (n / 10)
    rw [norm]; split
    · rename_i h
      have ih := norm_val s (n / 10)
      rw [show s + 1 - (norm s (n / 10)).2 = (s - (norm s (n / 10)).2) + 1 by omega, Int.pow_succ, ← Int.mul_assoc, ← ih]
      omega
    · simp
theorem norm_id (m : Int) (s : Nat) (h : may m s = true) : norm s m = (m, s) := by
  unfold may at h; rw [decide_eq_true_eq] at h
  cases s with
  | zero => rfl
  | succ s =>
    rw [norm, if_neg]
    rcases h.2.2 with h1 | h1
    · omega
    · exact h1
theorem norm_abs : ∀ (s : Nat) (n : Int), (norm s n).1.natAbs ≤ n.natAbs
  | 0, n => Nat.le_refl _
  | s + 1, n => by
    rw [norm]; split
    · exact Nat.le_trans (norm_abs s _) (by omega)
    · exact Nat.le_refl _
theorem norm_sign : ∀ (s : Nat) (n : Int), (n < 0 → (norm s n).1 < 0) ∧ (0 ≤ n → 0 ≤ (norm s n).1)
  | 0, n => ⟨fun h => h, fun h => h⟩
  | s + 1, n => by
    rw [norm]; split
    · have ih := norm_sign s (n / 10)
      exact ⟨fun h => ih.1 (by omega), fun h => ih.2 (by omega)⟩
    · exact ⟨fun h => h, fun h => h⟩
theorem norm_R (s : Nat) (n : Int) (h : R n) : R (norm s n).1 := by
  have h1 := norm_abs s n
  have h2 := norm_sign s n
  unfold R at *
  by_cases hn : n < 0
  · have := h2.1 hn; omega
  · have := h2.2 (by omega); omega
theorem may_bd {m s : Int} (h : may m s = true) : 0 ≤ s ∧ s ≤ 18 := by unfold may at h; rw [decide_eq_true_eq] at h; omega
def pad (m : Int) (s : Nat) : List UInt8 := List.replicate (s + 1 - (Lib.decDigits m.natAbs).length) 48 ++ Lib.decDigits m.natAbs
def txt (m : Int) (s : Nat) : List UInt8 :=
  (if m < 0 then [45] else []) ++ (if s = 0 then pad m s else (pad m s).take ((pad m s).length - s) ++ 46 :: (pad m s).drop ((pad m s).length - s))
def okBack (l : List UInt8) : Bool := digitsB l && decide (l.length ≤ 18)
def pOk (d : List UInt8) : Bool := okDigits (front d) && (!point d || okBack (back d))
def pN (l : List UInt8) : Int := if below l then -(num (front (body l) ++ back (body l)) : Int) else num (front (body l) ++ back (body l))
def parseOk (l : List UInt8) : Bool := pOk (body l) && inR (pN l)
def pM (l : List UInt8) : Int := if parseOk l then (norm (back (body l)).length (pN l)).1 else 0
def pS (l : List UInt8) : Int := if parseOk l then (norm (back (body l)).length (pN l)).2 else 0
def pE (l : List UInt8) : Int := if parseOk l then 0 else 140
theorem dig_point {c : UInt8} (h : isDig c = true) : (c != 46) = true := by
  simp only [isDig, decide_eq_true_eq] at h
  simp only [bne_iff_ne, ne_eq]; rintro rfl
  exact absurd h.1 (by decide)
theorem dig_dash {c : UInt8} (h : isDig c = true) : (c == 45) = false := by
  simp only [isDig, decide_eq_true_eq] at h
  rw [beq_eq_false_iff_ne]; rintro rfl
  exact absurd h.1 (by decide)
theorem front_dig (f : List UInt8) (h : f.all isDig = true) : front f = f ∧ back f = [] ∧ point f = false := by
  have hp : point f = false := by
    unfold point
    rw [Bool.eq_false_iff]
    intro hc
    have := dig_point (List.all_eq_true.1 h 46 (by simpa using hc))
    simp at this
  exact ⟨(front_none f hp).1, (front_none f hp).2, hp⟩
theorem front_app (f b : List UInt8) (h : f.all isDig = true) : front (f ++ 46 :: b) = f ∧ back (f ++ 46 :: b) = b ∧ point (f ++ 46 :: b) = true := by
  have hm : ∀ x ∈ f, (x != 46) = true := fun x hx => dig_point (List.all_eq_true.1 h x hx)
  refine ⟨?_, ?_, ?_⟩
  · unfold front
    rw [List.takeWhile_append_of_pos hm]
    simp
  · unfold back
    rw [List.dropWhile_append_of_pos hm]
    simp
  · unfold point; simp
theorem num_zeros (k : Nat) (l : List UInt8) : num (List.replicate k 48 ++ l) = num l := by
  induction k with
  | zero => rfl
  | succ k ih => rw [List.replicate_succ, List.cons_append, num, numFrom_cons]; exact ih
theorem num_lt (l : List UInt8) (h : l.all isDig = true) : num l < 10 ^ l.length := by
  suffices H : ∀ n : Nat, ∀ l : List UInt8, l.length = n → l.all isDig = true → num l < 10 ^ n from H _ l rfl h
  intro n
  induction n with
  | zero => intro l hl _; rw [List.length_eq_zero_iff.1 hl]; decide
  | succ n ih =>
    intro l hl h
    have hne : l ≠ [] := by intro e; rw [e] at hl; simp at hl
    obtain ⟨m, c, rfl⟩ : ∃ m c, l = m ++ [c] := ⟨l.dropLast, l.getLast hne, (List.dropLast_concat_getLast hne).symm⟩
    simp only [List.all_append, List.all_cons, List.all_nil, Bool.and_true, Bool.and_eq_true] at h
    have h1 := ih m (by simpa using hl) h.1
    have h2 := h.2
    simp only [isDig, decide_eq_true_eq] at h2
    rw [num_snoc, dv, Nat.pow_succ]
    omega
theorem dec_len (u : Nat) : ∀ j : Nat, 1 ≤ j → u < 10 ^ j → (Lib.decDigits u).length ≤ j := by
  induction u using Nat.strongRecOn with
  | _ u ih =>
    intro j hj hu
    rw [Lib.decDigits]
    by_cases h : u < 10
    · rw [dif_pos h]; simpa using hj
    · rw [dif_neg h]
      obtain ⟨i, rfl⟩ : ∃ i, j = i + 1 := ⟨j - 1, by omega⟩
      rw [Nat.pow_succ] at hu
      have hi : 1 ≤ i := by
        rcases Nat.eq_zero_or_pos i with h0 | h0
        · subst h0; simp at hu; omega
        · exact h0
      have := ih (u / 10) (by omega) i hi (by omega)
      simp; omega
theorem all_zeros (k : Nat) : (List.replicate k (48 : UInt8)).all isDig = true := by
  rw [List.all_eq_true]; intro x hx; rw [(List.mem_replicate.1 hx).2]; decide
theorem pad_all (m : Int) (s : Nat) : (pad m s).all isDig = true := by
  unfold pad; rw [List.all_append, all_zeros, (dec_all _).1]; rfl
theorem pad_num (m : Int) (s : Nat) : num (pad m s) = m.natAbs := by
  unfold pad; rw [num_zeros, (dec_all _).2.2]
theorem pad_len (m : Int) (s : Nat) : (pad m s).length = (if (Lib.decDigits m.natAbs).length ≤ s then s + 1 else (Lib.decDigits m.natAbs).length) := by
  unfold pad; rw [List.length_append, List.length_replicate]; split <;> omega
theorem dec_pos (u : Nat) : 1 ≤ (Lib.decDigits u).length := List.length_pos_iff.2 (dec_all u).2.1
theorem okDigits_take (l : List UInt8) (h : okDigits l = true) (k : Nat) (hk : 1 ≤ k) : okDigits (l.take k) = true := by
  obtain ⟨c, r, rfl⟩ : ∃ c r, l = c :: r := by
    cases l with
    | nil => exact absurd h (by decide)
    | cons c r => exact ⟨c, r, rfl⟩
  obtain ⟨k, rfl⟩ : ∃ i, k = i + 1 := ⟨k - 1, by omega⟩
  simp only [okDigits, digitsB, Bool.and_eq_true, List.all_cons, List.take_succ_cons, List.isEmpty_cons, Bool.not_false, and_true, List.head?_cons, List.length_cons, Bool.not_eq_true', Bool.and_eq_false_iff] at h ⊢
  obtain ⟨⟨h1, h2⟩, h3⟩ := h
  refine ⟨⟨h1, ?_⟩, ?_⟩
  · exact List.all_eq_true.2 fun x hx => List.all_eq_true.1 h2 x (List.mem_of_mem_take hx)
  · rcases h3 with h3 | h3
    · exact .inl h3
    · right
      have h3' := of_decide_eq_false h3
      have h4 : (List.take k r).length ≤ r.length := List.length_take_le' k r
      exact decide_eq_false (show ¬ 1 < (List.take k r).length + 1 by change ¬ 1 < r.length + 1 at h3'; omega)
/-- What stands behind the sign. -/
def core (m : Int) (s : Nat) : List UInt8 := if s = 0 then pad m s else (pad m s).take ((pad m s).length - s) ++ 46 :: (pad m s).drop ((pad m s).length - s)
theorem core_head (m : Int) (s : Nat) : below (core m s) = false := by
  have h := pad_all m s
  have hne : pad m s ≠ [] := by
    have := pad_len m s
    intro e; rw [e] at this
    have := dec_pos m.natAbs
    split at * <;> simp at * <;> omega
  have hl := pad_len m s
  have hd := dec_pos m.natAbs
  obtain ⟨c, r, hp⟩ : ∃ c r, pad m s = c :: r := by
    cases hp : pad m s with
    | nil => exact absurd hp hne
    | cons c r => exact ⟨c, r, rfl⟩
  rw [hp] at h
  simp only [List.all_cons, Bool.and_eq_true] at h
  unfold core
  split
  · rw [hp]; exact dig_dash h.1
  · have : 1 ≤ (pad m s).length - s := by split at hl <;> omega
    obtain ⟨j, hj⟩ : ∃ j, (pad m s).length - s = j + 1 := ⟨(pad m s).length - s - 1, by omega⟩
    rw [hj, hp]; exact dig_dash h.1
theorem txt_body (m : Int) (s : Nat) : below (txt m s) = decide (m < 0) ∧ body (txt m s) = core m s := by
  have hc := core_head m s
  have e : txt m s = (if m < 0 then [45] else []) ++ core m s := rfl
  by_cases h : m < 0
  · rw [e, if_pos h, decide_eq_true h]
    exact ⟨rfl, rfl⟩
  · rw [e, if_neg h, decide_eq_false h, List.nil_append]
    refine ⟨hc, ?_⟩
    unfold body; rw [hc]; rfl
/-- The text's parts. -/
theorem core_parts (m : Int) (s : Nat) : okDigits (front (core m s)) = true ∧ (back (core m s)).all isDig = true ∧ (back (core m s)).length = s ∧ point (core m s) = decide (0 < s) ∧ num (front (core m s) ++ back (core m s)) = m.natAbs := by
  have ha := pad_all m s
  have hl := pad_len m s
  have hd := dec_pos m.natAbs
  unfold core
  by_cases h : s = 0
  · subst h
    rw [if_pos rfl]
    obtain ⟨h1, h2, h3⟩ := front_dig _ ha
    rw [h1, h2, h3, List.append_nil, pad_num]
    refine ⟨?_, rfl, rfl, rfl, rfl⟩
    have : pad m 0 = Lib.decDigits m.natAbs := by unfold pad; rw [show 0 + 1 - (Lib.decDigits m.natAbs).length = 0 by omega]; rfl
    rw [this]; exact dec_ok _
  · rw [if_neg h]
    have hf : ((pad m s).take ((pad m s).length - s)).all isDig = true := List.all_eq_true.2 fun x hx => List.all_eq_true.1 ha x (List.mem_of_mem_take hx)
    obtain ⟨h1, h2, h3⟩ := front_app _ ((pad m s).drop ((pad m s).length - s)) hf
    rw [h1, h2, h3, List.take_append_drop, pad_num]
    refine ⟨?_, List.all_eq_true.2 fun x hx => List.all_eq_true.1 ha x (List.mem_of_mem_drop hx), ?_, (decide_eq_true (by omega)).symm, rfl⟩
    · by_cases hs : (Lib.decDigits m.natAbs).length ≤ s
      · rw [if_pos hs] at hl
        rw [hl, show s + 1 - s = 1 by omega]
        obtain ⟨j, hj⟩ : ∃ j, s + 1 - (Lib.decDigits m.natAbs).length = j + 1 := ⟨s - (Lib.decDigits m.natAbs).length, by omega⟩
        unfold pad
        rw [hj, List.replicate_succ, List.cons_append, List.take_succ_cons, List.take_zero]
        decide
      · have e : pad m s = Lib.decDigits m.natAbs := by unfold pad; rw [show s + 1 - (Lib.decDigits m.natAbs).length = 0 by omega]; rfl
        rw [e]
        exact okDigits_take _ (dec_ok _) _ (by omega)
    · rw [List.length_drop]
      split at hl <;> omega
theorem abs_sign (m : Int) : (if decide (m < 0) = true then -(m.natAbs : Int) else (m.natAbs : Int)) = m := by
  by_cases h : m < 0
  · rw [decide_eq_true h]; simp only [if_true]; omega
  · rw [decide_eq_false h]; simp only [Bool.false_eq_true, if_false]; omega
theorem txt_parse (m : Int) (s : Nat) (hr : R m) (h : may m s = true) : parseOk (txt m s) = true ∧ pN (txt m s) = m ∧ (back (body (txt m s))).length = s := by
  obtain ⟨h1, h2⟩ := txt_body m s
  obtain ⟨p1, p2, p3, p4, p5⟩ := core_parts m s
  have hb := may_bd h
  have hN : pN (txt m s) = m := by unfold pN; rw [h1, h2, p5]; exact abs_sign m
  refine ⟨?_, hN, by rw [h2, p3]⟩
  unfold parseOk pOk
  rw [hN, (inR_iff m).2 hr, h2, p1, p4]
  simp only [Bool.true_and, Bool.and_true, Bool.or_eq_true, Bool.not_eq_true']
  by_cases hs : 0 < s
  · right
    unfold okBack digitsB
    rw [p2, p3]
    have : (back (core m s)).isEmpty = false := by
      rw [List.isEmpty_eq_false_iff]; intro e; rw [e] at p3; simp at p3; omega
    rw [this]; simp; omega
  · left; simpa using hs
/-- THE STAGE'S THEOREM: a Decimal's text tells it. -/
theorem parse_txt (m : Int) (s : Nat) (hr : R m) (h : may m s = true) : pM (txt m s) = m ∧ pS (txt m s) = s ∧ pE (txt m s) = 0 := by
  obtain ⟨h1, h2, h3⟩ := txt_parse m s hr h
  unfold pM pS pE
  rw [h1, h2, h3, norm_id m s h]
  exact ⟨rfl, rfl, rfl⟩
theorem txt_len (m : Int) (s : Nat) : (txt m s).length = (if m < 0 then 1 else 0) + (if (Lib.decDigits m.natAbs).length ≤ s then s + 1 else (Lib.decDigits m.natAbs).length) + (if s = 0 then 0 else 1) := by
  have hl := pad_len m s
  have e : txt m s = (if m < 0 then [45] else []) ++ core m s := rfl
  rw [e, List.length_append]
  have h1 : (if m < 0 then [45] else ([] : List UInt8)).length = (if m < 0 then 1 else 0) := by split <;> rfl
  have h2 : (core m s).length = (pad m s).length + (if s = 0 then 0 else 1) := by
    unfold core; split
    · rfl
    · rw [List.length_append, List.length_cons, List.length_take, List.length_drop]; omega
  rw [h1, h2, hl]; omega
theorem body_len (l : List UInt8) : l.length = (if below l then 1 else 0) + (body l).length := by
  unfold body
  cases l with
  | nil => rfl
  | cons c r => cases h : below (c :: r) <;> simp; omega
/-- What is read may be, and its text is no longer. -/
theorem parse_may (l : List UInt8) (h : parseOk l = true) : may (pM l) (pS l) = true ∧ R (pM l) ∧ (txt (pM l) (pS l).toNat).length ≤ l.length := by
  have hok := h
  unfold parseOk pOk at h
  simp only [Bool.and_eq_true, Bool.or_eq_true, Bool.not_eq_true'] at h
  obtain ⟨⟨hf, hb⟩, hr⟩ := h
  have hf' := hf
  simp only [okDigits, digitsB, Bool.and_eq_true, Bool.not_eq_true', List.isEmpty_eq_false_iff] at hf'
  have hfl : 1 ≤ (front (body l)).length := List.length_pos_iff.2 hf'.1.2
  have hball : (back (body l)).all isDig = true ∧ (back (body l)).length ≤ 18 ∧ (body l).length = (front (body l)).length + (back (body l)).length + (if (back (body l)).length = 0 then 0 else 1) := by
    rcases hb with hb | hb
    · obtain ⟨e1, e2⟩ := front_none _ hb
      rw [e2, e1]; exact ⟨rfl, by decide, by simp⟩
    · simp only [okBack, digitsB, Bool.and_eq_true, decide_eq_true_eq, Bool.not_eq_true', List.isEmpty_eq_false_iff] at hb
      have hpt : point (body l) = true := by
        cases hp : point (body l) with
        | true => rfl
        | false => exact absurd (front_none _ hp).2 hb.1.2
      have e := congrArg List.length (front_back _ hpt)
      rw [List.length_append, List.length_cons] at e
      have h1 : (back (body l)).length ≠ 0 := fun e => hb.1.2 (List.length_eq_zero_iff.1 e)
      refine ⟨hb.1.1, hb.2, ?_⟩
      rw [if_neg h1]; omega
  obtain ⟨hb1, hb2, hb3⟩ := hball
  have hM : pM l = (norm (back (body l)).length (pN l)).1 := by unfold pM; rw [hok]; rfl
  have hS : pS l = (norm (back (body l)).length (pN l)).2 := by unfold pS; rw [hok]; rfl
  have hle := norm_le (back (body l)).length (pN l)
  have hval := norm_val (back (body l)).length (pN l)
  have hsg := norm_sign (back (body l)).length (pN l)
  have hlt := num_lt (front (body l) ++ back (body l)) (by rw [List.all_append, hf'.1.1, hb1]; rfl)
  have habs : (pN l).natAbs = num (front (body l) ++ back (body l)) := by unfold pN; split <;> omega
  have hneg : pN l < 0 → below l = true := by
    intro hn
    cases hbl : below l with
    | true => rfl
    | false => unfold pN at hn; rw [hbl] at hn; simp at hn; omega
  rw [hM, hS]
  refine ⟨norm_may _ _ hb2, norm_R _ _ ((inR_iff _).1 hr), ?_⟩
  rw [Int.toNat_natCast, txt_len, body_len l, hb3]
  generalize hk : (back (body l)).length = k at *
  generalize hn : pN l = n at *
  generalize hmm : norm k n = y at *
  obtain ⟨m, t⟩ := y
  simp only at *
  have hdec : (Lib.decDigits m.natAbs).length ≤ (front (body l)).length + t := by
    apply dec_len _ _ (by omega)
    rw [← habs, hval, Int.natAbs_mul, Int.natAbs_pow, List.length_append, hk] at hlt
    rw [show (front (body l)).length + k = ((front (body l)).length + t) + (k - t) by omega, Nat.pow_add] at hlt
    exact Nat.lt_of_mul_lt_mul_right hlt
  have hs1 : (if m < 0 then 1 else 0) ≤ (if below l = true then 1 else 0 : Nat) := by
    by_cases hm : m < 0
    · have hn0 : n < 0 := by
        by_cases q : n < 0
        · exact q
        · exact absurd (hsg.2 (by omega)) (by omega)
      rw [if_pos hm, if_pos (hneg hn0)]; exact Nat.le_refl _
    · rw [if_neg hm]; exact Nat.zero_le _
  have hs2 : (if t = 0 then 0 else 1) ≤ (if k = 0 then 0 else 1 : Nat) := by
    by_cases ht : t = 0
    · rw [if_pos ht]; exact Nat.zero_le _
    · rw [if_neg ht, if_neg (by omega)]; exact Nat.le_refl _
  have hp : (if (Lib.decDigits m.natAbs).length ≤ t then t + 1 else (Lib.decDigits m.natAbs).length) ≤ (front (body l)).length + t := by
    split <;> omega
  omega
end Go.Proofs.YtjhgiojmlkeccaaGreatDoor
namespace Go.Proofs.YtjhgiojmlkeccaaGreatDoor
open Go.RowKit
theorem ret_im {k : IntKind} {a c : Int} (h : a = c) : Ending.returned (.int k a) = .returned (.int k c) := by rw [h]
theorem tmod_zero (m : Int) : m.tmod 10 = 0 ↔ m % 10 = 0 := by
  rcases Int.le_total 0 m with h | h
  · rw [Int.tmod_eq_emod_of_nonneg h]
  · have e : m.tmod 10 = -((-m).tmod 10) := by rw [Int.neg_tmod, Int.neg_neg]
    rw [e, Int.tmod_eq_emod_of_nonneg (by omega)]; omega
set_option maxRecDepth 100000 in
set_option maxHeartbeats 1000000 in
theorem mcheck_any (m s : Int) (hm : R m) (hs : R s) (w : World) :
    Calls Tryz.prog 90 #[.agg #[.int .i64 m, .int .i64 s]] w fun e w' => e = .returned (.int .i64 (chk m s)) ∧ Below w.heap.size w w' := by
  obtain ⟨m1, m2⟩ := hm
  obtain ⟨s1, s2⟩ := hs
  go_enter Tryz.func90, Tryz.ntmps90
  go_wp2_with fail
  all_goals
    go_ret
    refine ⟨ret_im ?_, (Below.refl _ _).alloc (Nat.le_refl _) _⟩
    go_light
    have ht := tmod_zero m
    have hc : chk m s = if 0 ≤ s ∧ s ≤ 18 ∧ (s = 0 ∨ ¬ m % 10 = 0) then 0 else 140 := by unfold chk may; simp
    rw [hc]
    clear hc
    (try simp only [beq_iff_eq, beq_eq_false_iff_ne] at *)
    split <;> omega
theorem below_drewN' (B : Nat) (w : World) (n : Nat) : Below B w (w.drewN n) := ⟨rfl, rfl, rfl, Nat.le_refl _, fun _ _ => rfl⟩
end Go.Proofs.YtjhgiojmlkeccaaGreatDoor
namespace Go.Proofs.YtjhgiojmlkeccaaGreatDoor
open Go.RowKit
/-- A number of two words. -/
def two (u : Nat) : Value := .agg #[.int .u64 ((u / 18446744073709551616 : Nat) : Int), .int .u64 ((u % 18446744073709551616 : Nat) : Int)]
end Go.Proofs.YtjhgiojmlkeccaaGreatDoor
namespace Go.Proofs.YtjhgiojmlkeccaaGreatDoor
open Go.RowKit
theorem ret_i2 {a b c d : Int} (h : a = c) (h' : b = d) : Ending.returned (.tuple #[.int .u64 a, .int .u64 b]) = .returned (.tuple #[.int .u64 c, .int .u64 d]) := by rw [h, h']
theorem below_drawN {B : Nat} {w w1 : World} (n : Nat) (h : Below B w w1) : Below B w (w1.drewN n) := h.trans (below_drewN' _ _ _)
/-- The world but for draws. -/
def Drawn (w w' : World) : Prop := ∃ n, w' = w.drewN n
theorem Drawn.below {B : Nat} {w w' : World} (h : Drawn w w') : Below B w w' := by obtain ⟨n, rfl⟩ := h; exact below_drewN' _ _ _
end Go.Proofs.YtjhgiojmlkeccaaGreatDoor
namespace Go.Proofs.YtjhgiojmlkeccaaGreatDoor
open Go.RowKit
/-- What a call that only makes blocks leaves. -/
theorem bcell {W w1 : World} (hb : Below W.heap.size W w1) : (∀ b o, b < W.heap.size → w1.cell? ⟨b, o, none⟩ = W.cell? ⟨b, o, none⟩) ∧ (∀ b o, b < W.heap.size → w1.frozen? ⟨b, o, none⟩ = W.frozen? ⟨b, o, none⟩) :=
  ⟨fun b o h => hb.cell (p := ⟨b, o, none⟩) h, fun b o h => hb.frozen (p := ⟨b, o, none⟩) h⟩
end Go.Proofs.YtjhgiojmlkeccaaGreatDoor
namespace Go.Proofs.YtjhgiojmlkeccaaGreatDoor
open Go.RowKit
/-- What stands ahead of the first c; what stands behind it; does one stand there? -/
def ahead (c : UInt8) (l : List UInt8) : List UInt8 := l.takeWhile (· != c)
def behind (c : UInt8) (l : List UInt8) : List UInt8 := (l.dropWhile (· != c)).tail
theorem behind_nil_of (c : UInt8) : ∀ l : List UInt8, l.contains c = false → ahead c l = l ∧ behind c l = []
  | [], _ => ⟨rfl, rfl⟩
  | b :: l, h => by
    rw [List.contains_cons, Bool.or_eq_false_iff] at h
    have hb : (b != c) = true := by
      have := h.1; rw [beq_eq_false_iff_ne] at this; rw [bne_iff_ne]; exact fun e => this e.symm
    obtain ⟨h1, h2⟩ := behind_nil_of c l h.2
    unfold ahead behind at *
    rw [List.takeWhile_cons_of_pos (p := (· != c)) hb, List.dropWhile_cons_of_pos (p := (· != c)) hb, h1, h2]; exact ⟨rfl, rfl⟩
theorem indexByte_ahead (c : UInt8) : ∀ l : List UInt8, Lib.indexByte l c = if l.contains c then ((ahead c l).length : Int) else -1
  | [] => rfl
  | b :: l => by
    rw [Lib.indexByte, indexByte_ahead c l, List.contains_cons]
    by_cases hb : b = c
    · subst hb; simp [ahead]
    · have h1 : (b == c) = false := by simpa using hb
      have h2 : (c == b) = false := by simpa using fun e => hb e.symm
      have h3 : (ahead c (b :: l)).length = (ahead c l).length + 1 := by
        unfold ahead; rw [List.takeWhile_cons_of_pos (by simpa using hb)]; rfl
      rw [h1, h2, h3]
      cases hl : l.contains c
      · rfl
      · have : (((ahead c l).length : Int) == -1) = false := by rw [beq_eq_false_iff_ne]; omega
        simp only [Bool.false_or, if_true, Bool.false_eq_true, if_false, this]; omega
theorem ahead_behind (c : UInt8) : ∀ l : List UInt8, l.contains c = true → l = ahead c l ++ c :: behind c l
  | [], h => by cases h
  | b :: l, h => by
    by_cases hb : b = c
    · subst hb; simp [ahead, behind]
    · have h2 : (c == b) = false := by simpa using fun e => hb e.symm
      rw [List.contains_cons, h2, Bool.false_or] at h
      have ih := ahead_behind c l h
      unfold ahead behind at *
      rw [List.takeWhile_cons_of_pos (by simpa using hb), List.dropWhile_cons_of_pos (by simpa using hb), List.cons_append, ← ih]
theorem ahead_take (c : UInt8) (l : List UInt8) (h : l.contains c = true) : l.take (ahead c l).length = ahead c l ∧ l.drop ((ahead c l).length + 1) = behind c l ∧ (ahead c l).length < l.length := by
  have e := ahead_behind c l h
  generalize ahead c l = a at *
  generalize behind c l = b at *
  subst e
  refine ⟨by simp, by simp, by simp⟩
theorem indexByteString_run (s : ByteArray) (c : Int) (w : World) :
    (callFunc 198 #[.string s, .int .u8 c]).run Tryz.prog w = .ok (.value (.int .i64 (Lib.indexByte s.data.toList c.toNat.toUInt8))) w := by
  rw [run_callFunc_extern Tryz.func198 (by kernel_rfl) (by kernel_rfl) (by kernel_rfl) (e := Extern.BytealgIndexByte.indexByte) (by kernel_rfl), Lib.run_indexByteString]
  rfl
theorem slIndexByte_any (s : ByteArray) (c : Int) (w : World) :
    Calls Tryz.prog 167 #[.string s, .int .u8 c] w fun e w' => e = .returned (.int .i64 (Lib.indexByte s.data.toList c.toNat.toUInt8)) ∧ w = w' := by
  have h := indexByteString_run s c
  generalize Lib.indexByte s.data.toList c.toNat.toUInt8 = r at *
  go_enter Tryz.func167, Tryz.ntmps167
  go_wp2_with fail
  go_ret
  exact ⟨rfl, rfl⟩
theorem index_one (s : ByteArray) (c : UInt8) (w : World) :
    Calls Tryz.prog 171 #[.string s, .string ⟨#[c]⟩] w fun e w' => e = .returned (.int .i64 (Lib.indexByte s.data.toList c)) ∧ w = w' := by
  by_cases h : s.data.toList = [c]
  · have hs : s = ⟨#[c]⟩ := by
      obtain ⟨d⟩ := s
      have : d = #[c] := by apply Array.ext'; simpa using h
      rw [this]
    subst hs
    have e : Lib.indexByte (⟨#[c]⟩ : ByteArray).data.toList c = 0 := by rw [h]; simp [Lib.indexByte]
    rw [e]
    go_enter Tryz.func171, Tryz.ntmps171
    go_wp2_with fail
    go_ret
    exact ⟨rfl, rfl⟩
  · have hb : ([c] == s.toList) = false := by
      rw [beq_eq_false_iff_ne, ByteArray.toList_eq]; exact fun e => h e.symm
    have H := Lib.hid (fun w => slIndexByte_any s (c.toNat : Int) w)
    rw [show ((c.toNat : Int)).toNat.toUInt8 = c by simp] at H
    clear h
    go_enter Tryz.func171, Tryz.ntmps171
    go_wp2_with fail
    refine (H.out _).mono ?_; rintro e w1 ⟨rfl, rfl⟩
    go_wp2_with fail
    go_ret
    exact ⟨rfl, rfl⟩
theorem ret_cut {a b a' b' : ByteArray} {f : Bool} (h : a = a') (h' : b = b') : Ending.returned (.tuple #[.string a, .string b, .bool f]) = .returned (.tuple #[.string a', .string b', .bool f]) := by rw [h, h']
theorem bytes_ext {a : ByteArray} {l : List UInt8} (h : a.data.toList = l) : a = ⟨l.toArray⟩ := by
  obtain ⟨d⟩ := a
  have : d = l.toArray := by apply Array.ext'; simpa using h
  rw [this]
set_option maxHeartbeats 400000 in
theorem slcut_one (s : ByteArray) (c : UInt8) (hs : s.size ≤ maxLen) (w : World) :
    Calls Tryz.prog 130 #[.string s, .string ⟨#[c]⟩] w fun e w' => e = .returned (.tuple #[.string ⟨(ahead c s.data.toList).toArray⟩, .string ⟨(behind c s.data.toList).toArray⟩, .bool (s.data.toList.contains c)]) ∧ ∃ n, w' = w.drewN n := by
  have H := Lib.hid (fun w => index_one s c w)
  rw [indexByte_ahead] at H
  unfold maxLen at hs
  cases hc : s.data.toList.contains c
  · obtain ⟨h1, h2⟩ := behind_nil_of c _ hc
    rw [hc] at H
    rw [h1, h2]
    clear h1 h2 hc
    simp only [Bool.false_eq_true, if_false] at H
    go_enter Tryz.func130, Tryz.ntmps130
    go_wp2_with fail
    refine (H.out _).mono ?_; rintro e w1 ⟨rfl, rfl⟩
    go_wp2_with fail
    go_ret3
    exact ⟨ret_cut (bytes_ext rfl) rfl, 0, rfl⟩
  · obtain ⟨h1, h2, h3⟩ := ahead_take c _ hc
    rw [hc] at H
    simp only [if_true] at H
    obtain ⟨n, hn⟩ : ∃ n, (ahead c s.data.toList).length = n := ⟨_, rfl⟩
    rw [hn] at H h1 h2 h3
    have hb : n < s.size := by rw [Array.length_toList] at h3; exact h3
    have e1 : s.extract 0 n = ⟨(ahead c s.data.toList).toArray⟩ := bytes_ext (by rw [Lib.extract_data]; simpa using h1)
    have e2 : s.extract (n + 1) s.size = ⟨(behind c s.data.toList).toArray⟩ := bytes_ext (by rw [Lib.extract_to_end]; exact h2)
    have E1 := Lib.hid e1
    have E2 := Lib.hid e2
    have i1 : (n : Int) ≤ (s.size : Int) := by omega
    have i2 : (n : Int) + 1 ≤ (s.size : Int) := by omega
    clear hn h1 h2 h3 hc e1 e2
    go_enter Tryz.func130, Tryz.ntmps130
    go_wp2_with fail
    refine (H.out _).mono ?_; rintro e w1 ⟨rfl, rfl⟩
    go_wp2_with fail
    go_quiet (fail)
    go_wp2_with fail
    go_ret3
    exact ⟨ret_cut E1.out E2.out, _, rfl⟩
theorem cut_one (s : ByteArray) (c : UInt8) (hs : s.size ≤ maxLen) (w : World) :
    Calls Tryz.prog 85 #[.string s, .string ⟨#[c]⟩] w fun e w' => e = .returned (.tuple #[.string ⟨(ahead c s.data.toList).toArray⟩, .string ⟨(behind c s.data.toList).toArray⟩, .bool (s.data.toList.contains c)]) ∧ ∃ n, w' = w.drewN n := by
  have H := Lib.hid (fun w => slcut_one s c hs w)
  generalize (⟨(ahead c s.data.toList).toArray⟩ : ByteArray) = a at *
  generalize (⟨(behind c s.data.toList).toArray⟩ : ByteArray) = b at *
  generalize s.data.toList.contains c = f at *
  clear hs
  go_enter Tryz.func85, Tryz.ntmps85
  go_wp2_with fail
  refine (H.out _).mono ?_; rintro e w1 ⟨rfl, nd, rfl⟩
  go_wp2_with fail
  go_ret3
  exact ⟨rfl, _, rfl⟩
end Go.Proofs.YtjhgiojmlkeccaaGreatDoor
namespace Go.Proofs.YtjhgiojmlkeccaaGreatDoor
open Go.RowKit
theorem own2d {w w1 : World} {x y : Value} {t : TypeId} {n : Nat} (hb : Below ((w.alloc (.cells #[x, y] t)).drewN n).heap.size ((w.alloc (.cells #[x, y] t)).drewN n) w1) :
    w1.cell? ⟨w.heap.size, 0, none⟩ = some x ∧ w1.cell? ⟨w.heap.size, 1, none⟩ = some y ∧ w1.frozen? ⟨w.heap.size, 0, none⟩ = false ∧ w1.frozen? ⟨w.heap.size, 1, none⟩ = false ∧ w.heap.size < w1.heap.size ∧ Below w.heap.size w w1 :=
  own2 ((below_drewN' (w.alloc (.cells #[x, y] t)).heap.size (w.alloc (.cells #[x, y] t)) n).trans hb)
/-- One block of two cells, its own, behind a call that only makes blocks. -/
theorem keep1 {w W w1 : World} {b : Nat} {x y : Value} (hb : Below W.heap.size W w1) (h : W.cell? ⟨b, 0, none⟩ = some x ∧ W.cell? ⟨b, 1, none⟩ = some y ∧ W.frozen? ⟨b, 0, none⟩ = false ∧ W.frozen? ⟨b, 1, none⟩ = false ∧ b < W.heap.size ∧ Below w.heap.size w W) :
    w1.cell? ⟨b, 0, none⟩ = some x ∧ w1.cell? ⟨b, 1, none⟩ = some y ∧ w1.frozen? ⟨b, 0, none⟩ = false ∧ w1.frozen? ⟨b, 1, none⟩ = false ∧ b < w1.heap.size ∧ Below w.heap.size w w1 := by
  obtain ⟨h0, h1, h2, h3, h4, h5⟩ := h
  obtain ⟨cc, ff⟩ := bcell hb
  exact ⟨(cc _ _ h4).trans h0, (cc _ _ h4).trans h1, (ff _ _ h4).trans h2, (ff _ _ h4).trans h3, Nat.lt_of_lt_of_le h4 hb.size, h5.trans (hb.mono h5.size)⟩
set_option maxRecDepth 100000 in
set_option maxHeartbeats 2000000 in
theorem parse_e1 (s dB fB bB : ByteArray) (bl pt : Bool) (v e : Int) (w : World) (he : Env w)
    (HC : Hid (∀ w, Calls Tryz.prog 84 #[.string s, .string ⟨#[45]⟩] w fun e w' => e = .returned (.tuple #[.string dB, .bool bl]) ∧ w = w'))
    (HK : Hid (∀ w, Calls Tryz.prog 85 #[.string dB, .string ⟨#[46]⟩] w fun e w' => e = .returned (.tuple #[.string fB, .string bB, .bool pt]) ∧ ∃ n, w' = w.drewN n))
    (HR : Hid (∀ w, Env w → Calls Tryz.prog 86 #[.string fB] w fun e' w' => e' = .returned (.tuple #[.int .i64 v, .int .i64 e]) ∧ Below w.heap.size w w'))
    (h1 : (e == 21) = true) :
    Calls Tryz.prog 55 #[.string s] w fun e w' => e = .returned (.tuple #[.agg #[.int .i64 0, .int .i64 0], .int .i64 140]) ∧ Below w.heap.size w w' := by
  go_enter Tryz.func55, Tryz.ntmps55
  go_wp2_with fail
  refine (HC.out _).mono ?_; rintro e w1 ⟨rfl, rfl⟩
  go_wp2_with fail
  refine (HK.out _).mono ?_; rintro e w1 ⟨rfl, nd, rfl⟩
  go_wp2_with fail
  refine ((HR.out _ (he.stays (below_drawN nd ((Below.refl _ _).alloc (Nat.le_refl _) _)))).mono ?_); rintro e w1 ⟨rfl, hb1⟩
  obtain ⟨c0, c1, f0, f1, hz, hbw⟩ := own2d hb1
  clear hb1
  go_wp2_with fail
  refine bodyPost_ret (v := .tuple #[.agg #[.int .i64 0, .int .i64 0], .int .i64 140]) (by simp [results, Tryz.results55, go_sem, *]) rfl ⟨rfl, ?_⟩
  go_grown
set_option maxRecDepth 100000 in
set_option maxHeartbeats 2000000 in
theorem parse_e2 (s dB fB bB : ByteArray) (bl pt : Bool) (v e : Int) (w : World) (he : Env w)
    (HC : Hid (∀ w, Calls Tryz.prog 84 #[.string s, .string ⟨#[45]⟩] w fun e w' => e = .returned (.tuple #[.string dB, .bool bl]) ∧ w = w'))
    (HK : Hid (∀ w, Calls Tryz.prog 85 #[.string dB, .string ⟨#[46]⟩] w fun e w' => e = .returned (.tuple #[.string fB, .string bB, .bool pt]) ∧ ∃ n, w' = w.drewN n))
    (HR : Hid (∀ w, Env w → Calls Tryz.prog 86 #[.string fB] w fun e' w' => e' = .returned (.tuple #[.int .i64 v, .int .i64 e]) ∧ Below w.heap.size w w'))
    (h1 : (e == 21) = false) (HP : Hid (∀ w, Calls Tryz.prog 87 #[.string fB, .string ⟨#[45]⟩] w fun e w' => e = .returned (.bool true) ∧ w = w')) :
    Calls Tryz.prog 55 #[.string s] w fun e w' => e = .returned (.tuple #[.agg #[.int .i64 0, .int .i64 0], .int .i64 140]) ∧ Below w.heap.size w w' := by
  go_enter Tryz.func55, Tryz.ntmps55
  go_wp2_with fail
  refine (HC.out _).mono ?_; rintro e w1 ⟨rfl, rfl⟩
  go_wp2_with fail
  refine (HK.out _).mono ?_; rintro e w1 ⟨rfl, nd, rfl⟩
  go_wp2_with fail
  refine ((HR.out _ (he.stays (below_drawN nd ((Below.refl _ _).alloc (Nat.le_refl _) _)))).mono ?_); rintro e w1 ⟨rfl, hb1⟩
  obtain ⟨c0, c1, f0, f1, hz, hbw⟩ := own2d hb1
  clear hb1
  go_wp2_with fail
  refine (HP.out _).mono ?_; rintro e w2 ⟨rfl, rfl⟩
  go_wp2_with fail
  refine bodyPost_ret (v := .tuple #[.agg #[.int .i64 0, .int .i64 0], .int .i64 140]) (by simp [results, Tryz.results55, go_sem, *]) rfl ⟨rfl, ?_⟩
  go_grown
set_option maxRecDepth 100000 in
set_option maxHeartbeats 2000000 in
theorem parse_e3 (s dB fB bB : ByteArray) (bl pt : Bool) (v e : Int) (w : World) (he : Env w)
    (HC : Hid (∀ w, Calls Tryz.prog 84 #[.string s, .string ⟨#[45]⟩] w fun e w' => e = .returned (.tuple #[.string dB, .bool bl]) ∧ w = w'))
    (HK : Hid (∀ w, Calls Tryz.prog 85 #[.string dB, .string ⟨#[46]⟩] w fun e w' => e = .returned (.tuple #[.string fB, .string bB, .bool pt]) ∧ ∃ n, w' = w.drewN n))
    (HR : Hid (∀ w, Env w → Calls Tryz.prog 86 #[.string fB] w fun e' w' => e' = .returned (.tuple #[.int .i64 v, .int .i64 e]) ∧ Below w.heap.size w w'))
    (h1 : (e == 21) = false) (HP : Hid (∀ w, Calls Tryz.prog 87 #[.string fB, .string ⟨#[45]⟩] w fun e w' => e = .returned (.bool false) ∧ w = w')) (h2 : pt = true) (h3 : bB.toList = []) (h4 : bB.toList.isEmpty = true) :
    Calls Tryz.prog 55 #[.string s] w fun e w' => e = .returned (.tuple #[.agg #[.int .i64 0, .int .i64 0], .int .i64 140]) ∧ Below w.heap.size w w' := by
  subst h2
  go_enter Tryz.func55, Tryz.ntmps55
  go_wp2_with fail
  refine (HC.out _).mono ?_; rintro e w1 ⟨rfl, rfl⟩
  go_wp2_with fail
  refine (HK.out _).mono ?_; rintro e w1 ⟨rfl, nd, rfl⟩
  go_wp2_with fail
  refine ((HR.out _ (he.stays (below_drawN nd ((Below.refl _ _).alloc (Nat.le_refl _) _)))).mono ?_); rintro e w1 ⟨rfl, hb1⟩
  obtain ⟨c0, c1, f0, f1, hz, hbw⟩ := own2d hb1
  clear hb1
  go_wp2_with fail
  refine (HP.out _).mono ?_; rintro e w2 ⟨rfl, rfl⟩
  go_wp2_with fail
  refine bodyPost_ret (v := .tuple #[.agg #[.int .i64 0, .int .i64 0], .int .i64 140]) (by simp [results, Tryz.results55, go_sem, *]) rfl ⟨rfl, ?_⟩
  go_grown
set_option maxRecDepth 100000 in
set_option maxHeartbeats 2000000 in
theorem parse_e4 (s dB fB bB : ByteArray) (bl pt : Bool) (v e : Int) (w : World) (he : Env w)
    (HC : Hid (∀ w, Calls Tryz.prog 84 #[.string s, .string ⟨#[45]⟩] w fun e w' => e = .returned (.tuple #[.string dB, .bool bl]) ∧ w = w'))
    (HK : Hid (∀ w, Calls Tryz.prog 85 #[.string dB, .string ⟨#[46]⟩] w fun e w' => e = .returned (.tuple #[.string fB, .string bB, .bool pt]) ∧ ∃ n, w' = w.drewN n))
    (HR : Hid (∀ w, Env w → Calls Tryz.prog 86 #[.string fB] w fun e' w' => e' = .returned (.tuple #[.int .i64 v, .int .i64 e]) ∧ Below w.heap.size w w'))
    (h1 : (e == 21) = false) (HP : Hid (∀ w, Calls Tryz.prog 87 #[.string fB, .string ⟨#[45]⟩] w fun e w' => e = .returned (.bool false) ∧ w = w')) (h2 : pt = true) (h3 : ¬ bB.toList = []) (h4 : bB.toList.isEmpty = false) (h5 : 18 < bB.size) (h6 : bB.size ≤ 281474976710656) :
    Calls Tryz.prog 55 #[.string s] w fun e w' => e = .returned (.tuple #[.agg #[.int .i64 0, .int .i64 0], .int .i64 140]) ∧ Below w.heap.size w w' := by
  subst h2
  go_enter Tryz.func55, Tryz.ntmps55
  go_wp2_with fail
  refine (HC.out _).mono ?_; rintro e w1 ⟨rfl, rfl⟩
  go_wp2_with fail
  refine (HK.out _).mono ?_; rintro e w1 ⟨rfl, nd, rfl⟩
  go_wp2_with fail
  refine ((HR.out _ (he.stays (below_drawN nd ((Below.refl _ _).alloc (Nat.le_refl _) _)))).mono ?_); rintro e w1 ⟨rfl, hb1⟩
  obtain ⟨c0, c1, f0, f1, hz, hbw⟩ := own2d hb1
  clear hb1
  go_wp2_with fail
  refine (HP.out _).mono ?_; rintro e w2 ⟨rfl, rfl⟩
  go_wp2_with fail
  refine bodyPost_ret (v := .tuple #[.agg #[.int .i64 0, .int .i64 0], .int .i64 140]) (by simp [results, Tryz.results55, go_sem, *]) rfl ⟨rfl, ?_⟩
  go_grown
set_option maxRecDepth 100000 in
set_option maxHeartbeats 2000000 in
theorem parse_e5 (s dB fB bB : ByteArray) (bl pt : Bool) (v e : Int) (w : World) (he : Env w)
    (HC : Hid (∀ w, Calls Tryz.prog 84 #[.string s, .string ⟨#[45]⟩] w fun e w' => e = .returned (.tuple #[.string dB, .bool bl]) ∧ w = w'))
    (HK : Hid (∀ w, Calls Tryz.prog 85 #[.string dB, .string ⟨#[46]⟩] w fun e w' => e = .returned (.tuple #[.string fB, .string bB, .bool pt]) ∧ ∃ n, w' = w.drewN n))
    (HR : Hid (∀ w, Env w → Calls Tryz.prog 86 #[.string fB] w fun e' w' => e' = .returned (.tuple #[.int .i64 v, .int .i64 e]) ∧ Below w.heap.size w w'))
    (tB : ByteArray) (h1 : (e == 21) = false) (HP : Hid (∀ w, Calls Tryz.prog 87 #[.string fB, .string ⟨#[45]⟩] w fun e w' => e = .returned (.bool false) ∧ w = w')) (h2 : pt = true) (h3 : ¬ bB.toList = []) (h4 : bB.toList.isEmpty = false) (h5 : bB.size ≤ 18) (HT : Hid (∀ w, Calls Tryz.prog 88 #[.string bB, .string ⟨#[48, 49, 50, 51, 52, 53, 54, 55, 56, 57]⟩] w fun e w' => e = .returned (.string tB) ∧ Below w.heap.size w w')) (h6 : ¬ tB.toList = []) (h7 : tB.toList.isEmpty = false) :
    Calls Tryz.prog 55 #[.string s] w fun e w' => e = .returned (.tuple #[.agg #[.int .i64 0, .int .i64 0], .int .i64 140]) ∧ Below w.heap.size w w' := by
  subst h2
  go_enter Tryz.func55, Tryz.ntmps55
  go_wp2_with fail
  refine (HC.out _).mono ?_; rintro e w1 ⟨rfl, rfl⟩
  go_wp2_with fail
  refine (HK.out _).mono ?_; rintro e w1 ⟨rfl, nd, rfl⟩
  go_wp2_with fail
  refine ((HR.out _ (he.stays (below_drawN nd ((Below.refl _ _).alloc (Nat.le_refl _) _)))).mono ?_); rintro e w1 ⟨rfl, hb1⟩
  obtain ⟨c0, c1, f0, f1, hz, hbw⟩ := own2d hb1
  clear hb1
  go_wp2_with fail
  refine (HP.out _).mono ?_; rintro e w2 ⟨rfl, rfl⟩
  go_wp2_with fail
  refine (HT.out _).mono ?_; rintro e w2 ⟨rfl, hb2⟩
  have hk := keep1 hb2 ⟨c0, c1, f0, f1, hz, hbw⟩
  clear c0 c1 f0 f1 hz hbw hb2
  obtain ⟨c0, c1, f0, f1, hz, hbw⟩ := hk
  go_wp2_with fail
  refine bodyPost_ret (v := .tuple #[.agg #[.int .i64 0, .int .i64 0], .int .i64 140]) (by simp [results, Tryz.results55, go_sem, *]) rfl ⟨rfl, ?_⟩
  go_grown
set_option maxRecDepth 100000 in
set_option maxHeartbeats 2000000 in
theorem parse_z_np (s dB fB bB : ByteArray) (bl pt : Bool) (v e : Int) (w : World) (he : Env w)
    (HC : Hid (∀ w, Calls Tryz.prog 84 #[.string s, .string ⟨#[45]⟩] w fun e w' => e = .returned (.tuple #[.string dB, .bool bl]) ∧ w = w'))
    (HK : Hid (∀ w, Calls Tryz.prog 85 #[.string dB, .string ⟨#[46]⟩] w fun e w' => e = .returned (.tuple #[.string fB, .string bB, .bool pt]) ∧ ∃ n, w' = w.drewN n))
    (HR : Hid (∀ w, Env w → Calls Tryz.prog 86 #[.string fB] w fun e' w' => e' = .returned (.tuple #[.int .i64 v, .int .i64 e]) ∧ Below w.heap.size w w'))
    (h1 : (e == 21) = false) (HP : Hid (∀ w, Calls Tryz.prog 87 #[.string fB, .string ⟨#[45]⟩] w fun e w' => e = .returned (.bool false) ∧ w = w')) (h2 : pt = false) (hf : fB.size ≤ 140737488355328) (hb : bB.size ≤ 140737488355328) (aB : ByteArray) (HL : Hid (∀ w, Calls Tryz.prog 89 #[.string (fB ++ bB), .string ⟨#[48]⟩] w fun e w' => e = .returned (.string aB) ∧ w' = w)) (ha : aB.toList = []) (ha2 : aB.toList.isEmpty = true) :
    Calls Tryz.prog 55 #[.string s] w fun e w' => e = .returned (.tuple #[.agg #[.int .i64 0, .int .i64 0], .int .i64 0]) ∧ Below w.heap.size w w' := by
  subst h2
  go_enter Tryz.func55, Tryz.ntmps55
  go_wp2_with fail
  refine (HC.out _).mono ?_; rintro e w1 ⟨rfl, rfl⟩
  go_wp2_with fail
  refine (HK.out _).mono ?_; rintro e w1 ⟨rfl, nd, rfl⟩
  go_wp2_with fail
  refine ((HR.out _ (he.stays (below_drawN nd ((Below.refl _ _).alloc (Nat.le_refl _) _)))).mono ?_); rintro e w1 ⟨rfl, hb1⟩
  obtain ⟨c0, c1, f0, f1, hz, hbw⟩ := own2d hb1
  clear hb1
  go_wp2_with fail
  refine (HP.out _).mono ?_; rintro e w2 ⟨rfl, rfl⟩
  go_wp2_with fail
  refine (HL.out _).mono ?_; rintro e w4 ⟨rfl, rfl⟩
  go_wp2_with fail
  refine bodyPost_ret (v := .tuple #[.agg #[.int .i64 0, .int .i64 0], .int .i64 0]) (by simp [results, Tryz.results55, go_sem, *]) rfl ⟨rfl, ?_⟩
  go_grown
set_option maxRecDepth 100000 in
set_option maxHeartbeats 2000000 in
theorem parse_o_np_false (s dB fB bB : ByteArray) (bl pt : Bool) (v e : Int) (w : World) (he : Env w)
    (HC : Hid (∀ w, Calls Tryz.prog 84 #[.string s, .string ⟨#[45]⟩] w fun e w' => e = .returned (.tuple #[.string dB, .bool bl]) ∧ w = w'))
    (HK : Hid (∀ w, Calls Tryz.prog 85 #[.string dB, .string ⟨#[46]⟩] w fun e w' => e = .returned (.tuple #[.string fB, .string bB, .bool pt]) ∧ ∃ n, w' = w.drewN n))
    (HR : Hid (∀ w, Env w → Calls Tryz.prog 86 #[.string fB] w fun e' w' => e' = .returned (.tuple #[.int .i64 v, .int .i64 e]) ∧ Below w.heap.size w w'))
    (h1 : (e == 21) = false) (HP : Hid (∀ w, Calls Tryz.prog 87 #[.string fB, .string ⟨#[45]⟩] w fun e w' => e = .returned (.bool false) ∧ w = w')) (h2 : pt = false) (hf : fB.size ≤ 140737488355328) (hb : bB.size ≤ 140737488355328) (aB : ByteArray) (HL : Hid (∀ w, Calls Tryz.prog 89 #[.string (fB ++ bB), .string ⟨#[48]⟩] w fun e w' => e = .returned (.string aB) ∧ w' = w)) (hbl : bl = false) (ha : ¬ aB.toList = []) (ha2 : aB.toList.isEmpty = false) (hab : aB.size ≤ 281474976710656) (n e2 : Int) (HR2 : Hid (∀ w, Env w → Calls Tryz.prog 86 #[.string aB] w fun e' w' => e' = .returned (.tuple #[.int .i64 n, .int .i64 e2]) ∧ Below w.heap.size w w')) (h9 : (e2 != 0) = true) :
    Calls Tryz.prog 55 #[.string s] w fun e w' => e = .returned (.tuple #[.agg #[.int .i64 0, .int .i64 0], .int .i64 140]) ∧ Below w.heap.size w w' := by
  subst h2
  subst hbl
  go_enter Tryz.func55, Tryz.ntmps55
  go_wp2_with fail
  refine (HC.out _).mono ?_; rintro e w1 ⟨rfl, rfl⟩
  go_wp2_with fail
  refine (HK.out _).mono ?_; rintro e w1 ⟨rfl, nd, rfl⟩
  go_wp2_with fail
  refine ((HR.out _ (he.stays (below_drawN nd ((Below.refl _ _).alloc (Nat.le_refl _) _)))).mono ?_); rintro e w1 ⟨rfl, hb1⟩
  obtain ⟨c0, c1, f0, f1, hz, hbw⟩ := own2d hb1
  clear hb1
  go_wp2_with fail
  refine (HP.out _).mono ?_; rintro e w2 ⟨rfl, rfl⟩
  go_wp2_with fail
  refine (HL.out _).mono ?_; rintro e w4 ⟨rfl, rfl⟩
  go_wp2_with fail
  refine ((HR2.out _ (he.stays (by assumption))).mono ?_); rintro e w5 ⟨rfl, hb5⟩
  have hk := keep1 hb5 ⟨c0, c1, f0, f1, hz, hbw⟩
  clear c0 c1 f0 f1 hz hbw hb5
  obtain ⟨c0, c1, f0, f1, hz, hbw⟩ := hk
  go_wp2_with fail
  refine bodyPost_ret (v := .tuple #[.agg #[.int .i64 0, .int .i64 0], .int .i64 140]) (by simp [results, Tryz.results55, go_sem, *]) rfl ⟨rfl, ?_⟩
  go_grown
set_option maxRecDepth 100000 in
set_option maxHeartbeats 2000000 in
theorem parse_m_np_false (s dB fB bB : ByteArray) (bl pt : Bool) (v e : Int) (w : World) (he : Env w)
    (HC : Hid (∀ w, Calls Tryz.prog 84 #[.string s, .string ⟨#[45]⟩] w fun e w' => e = .returned (.tuple #[.string dB, .bool bl]) ∧ w = w'))
    (HK : Hid (∀ w, Calls Tryz.prog 85 #[.string dB, .string ⟨#[46]⟩] w fun e w' => e = .returned (.tuple #[.string fB, .string bB, .bool pt]) ∧ ∃ n, w' = w.drewN n))
    (HR : Hid (∀ w, Env w → Calls Tryz.prog 86 #[.string fB] w fun e' w' => e' = .returned (.tuple #[.int .i64 v, .int .i64 e]) ∧ Below w.heap.size w w'))
    (h1 : (e == 21) = false) (HP : Hid (∀ w, Calls Tryz.prog 87 #[.string fB, .string ⟨#[45]⟩] w fun e w' => e = .returned (.bool false) ∧ w = w')) (h2 : pt = false) (hf : fB.size ≤ 140737488355328) (hb : bB.size ≤ 140737488355328) (aB : ByteArray) (HL : Hid (∀ w, Calls Tryz.prog 89 #[.string (fB ++ bB), .string ⟨#[48]⟩] w fun e w' => e = .returned (.string aB) ∧ w' = w)) (hbl : bl = false) (ha : ¬ aB.toList = []) (ha2 : aB.toList.isEmpty = false) (hab : aB.size ≤ 281474976710656) (n e2 : Int) (HR2 : Hid (∀ w, Env w → Calls Tryz.prog 86 #[.string aB] w fun e' w' => e' = .returned (.tuple #[.int .i64 n, .int .i64 e2]) ∧ Below w.heap.size w w')) (h9 : e2 = 0) (hn : R n) (h8 : bB.size ≤ 18) (rM : Int) (rS : Nat) (HN : Hid (norm bB.size n = (rM, rS))) :
    Calls Tryz.prog 55 #[.string s] w fun e w' => e = .returned (.tuple #[.agg #[.int .i64 rM, .int .i64 (rS : Int)], .int .i64 0]) ∧ Below w.heap.size w w' := by
  subst h2
  subst hbl
  subst h9
  go_enter Tryz.func55, Tryz.ntmps55
  go_wp2_with fail
  refine (HC.out _).mono ?_; rintro e w1 ⟨rfl, rfl⟩
  go_wp2_with fail
  refine (HK.out _).mono ?_; rintro e w1 ⟨rfl, nd, rfl⟩
  go_wp2_with fail
  refine ((HR.out _ (he.stays (below_drawN nd ((Below.refl _ _).alloc (Nat.le_refl _) _)))).mono ?_); rintro e w1 ⟨rfl, hb1⟩
  obtain ⟨c0, c1, f0, f1, hz, hbw⟩ := own2d hb1
  clear hb1
  go_wp2_with fail
  refine (HP.out _).mono ?_; rintro e w2 ⟨rfl, rfl⟩
  go_wp2_with fail
  refine (HL.out _).mono ?_; rintro e w4 ⟨rfl, rfl⟩
  go_wp2_with fail
  refine ((HR2.out _ (he.stays (by assumption))).mono ?_); rintro e w5 ⟨rfl, hb5⟩
  have hk := keep1 hb5 ⟨c0, c1, f0, f1, hz, hbw⟩
  clear c0 c1 f0 f1 hz hbw hb5
  obtain ⟨c0, c1, f0, f1, hz, hbw⟩ := hk
  go_wp2_with fail
  go_loopg [84] bB.size (fun k u wr => ∃ (j : Nat) (y : Int), k = j ∧ j ≤ 18 ∧ R y ∧ wr.cell? ⟨w5.heap.size, 0, none⟩ = some (.int .i64 y) ∧ wr.cell? ⟨w5.heap.size, 1, none⟩ = some (.int .i64 j) ∧ wr.frozen? ⟨w5.heap.size, 0, none⟩ = false ∧ wr.frozen? ⟨w5.heap.size, 1, none⟩ = false ∧ wr.cell? ⟨w.heap.size, 0, none⟩ = some (.int .i64 0) ∧ wr.cell? ⟨w.heap.size, 1, none⟩ = some (.int .i64 0) ∧ wr.frozen? ⟨w.heap.size, 0, none⟩ = false ∧ wr.frozen? ⟨w.heap.size, 1, none⟩ = false ∧ w5.heap.size < wr.heap.size ∧ Hid (norm j y = (rM, rS)) ∧ Below w.heap.size w wr)
  case atStart =>
    refine ⟨bB.size, n, rfl, h8, hn, by simp [go_sem], by simp [go_sem], by simp [go_sem], by simp [go_sem], by simp [go_sem, *], by simp [go_sem, *], by simp [go_sem, *], by simp [go_sem, *], by simp, HN, ?_⟩
    go_grown
  case round =>
    obtain ⟨j, y, rfl, hj, hy, a0, a1, b0, b1, c0', c1', f0', f1', hz', HY, hbw'⟩ := hrel
    have hlt : ¬ w5.heap.size = w.heap.size := by omega
    clear c0 c1 f0 f1 hbw
    obtain ⟨y1, y2⟩ := hy
    by_cases hj0 : gk = 0
    · subst hj0
      have hend : rM = y ∧ rS = 0 := by have := HY.out; rw [norm] at this; exact ⟨congrArg Prod.fst this.symm, congrArg Prod.snd this.symm⟩
      obtain ⟨rfl, rfl⟩ := hend
      go_wp2_with fail
      refine bodyPost_ret (v := .tuple #[.agg #[.int .i64 rM, .int .i64 ((0 : Nat) : Int)], .int .i64 0]) (by simp [results, Tryz.results55, go_sem, *]) rfl ⟨rfl, ?_⟩
      go_grown
    · obtain ⟨i, rfl⟩ : ∃ i, gk = i + 1 := ⟨gk - 1, by omega⟩
      by_cases hm : y % 10 = 0
      · have ht : (y.tmod 10 == 0) = true := by rw [beq_iff_eq]; exact (tmod_zero y).2 hm
        obtain ⟨z, hq⟩ : ∃ z, y.tdiv 10 = z := ⟨_, rfl⟩
        have hqz : z = y / 10 := by rw [← hq, Int.tdiv_eq_ediv_of_dvd (Int.dvd_of_emod_eq_zero hm)]
        have HY2 : Hid (norm i z = (rM, rS)) := Lib.hid (by have := HY.out; rw [norm, if_pos hm, ← hqz] at this; exact this)
        have zb : -9223372036854775808 ≤ z ∧ z ≤ 9223372036854775807 := by omega
        obtain ⟨z1, z2⟩ := zb
        clear hqz hm hj0
        go_wp2_with fail
        go_roundg i
        case measure => omega
        case rel =>
          refine ⟨i, z, rfl, by omega, ⟨z1, z2⟩, by simp [go_sem, *], by simp [go_sem, *], by simp [go_sem, *], by simp [go_sem, *], by simp [go_sem, *], by simp [go_sem, *], by simp [go_sem, *], by simp [go_sem, *], by simpa using hz', HY2, ?_⟩
          go_grown
      · have ht : (y.tmod 10 == 0) = false := by rw [beq_eq_false_iff_ne]; exact fun h => hm ((tmod_zero y).1 h)
        have hend : rM = y ∧ rS = i + 1 := by have := HY.out; rw [norm, if_neg hm] at this; exact ⟨congrArg Prod.fst this.symm, congrArg Prod.snd this.symm⟩
        obtain ⟨rfl, rfl⟩ := hend
        clear hm hj0
        go_wp2_with fail
        refine bodyPost_ret (v := .tuple #[.agg #[.int .i64 rM, .int .i64 ((i : Int) + 1)], .int .i64 0]) (by simp [results, Tryz.results55, go_sem, *]) rfl ⟨rfl, ?_⟩
        go_grown
set_option maxRecDepth 100000 in
set_option maxHeartbeats 2000000 in
theorem parse_o_np_true (s dB fB bB : ByteArray) (bl pt : Bool) (v e : Int) (w : World) (he : Env w)
    (HC : Hid (∀ w, Calls Tryz.prog 84 #[.string s, .string ⟨#[45]⟩] w fun e w' => e = .returned (.tuple #[.string dB, .bool bl]) ∧ w = w'))
    (HK : Hid (∀ w, Calls Tryz.prog 85 #[.string dB, .string ⟨#[46]⟩] w fun e w' => e = .returned (.tuple #[.string fB, .string bB, .bool pt]) ∧ ∃ n, w' = w.drewN n))
    (HR : Hid (∀ w, Env w → Calls Tryz.prog 86 #[.string fB] w fun e' w' => e' = .returned (.tuple #[.int .i64 v, .int .i64 e]) ∧ Below w.heap.size w w'))
    (h1 : (e == 21) = false) (HP : Hid (∀ w, Calls Tryz.prog 87 #[.string fB, .string ⟨#[45]⟩] w fun e w' => e = .returned (.bool false) ∧ w = w')) (h2 : pt = false) (hf : fB.size ≤ 140737488355328) (hb : bB.size ≤ 140737488355328) (aB : ByteArray) (HL : Hid (∀ w, Calls Tryz.prog 89 #[.string (fB ++ bB), .string ⟨#[48]⟩] w fun e w' => e = .returned (.string aB) ∧ w' = w)) (hbl : bl = true) (ha : ¬ aB.toList = []) (ha2 : aB.toList.isEmpty = false) (hab : aB.size ≤ 281474976710656) (n e2 : Int) (HR2 : Hid (∀ w, Env w → Calls Tryz.prog 86 #[.string (⟨#[45]⟩ ++ aB)] w fun e' w' => e' = .returned (.tuple #[.int .i64 n, .int .i64 e2]) ∧ Below w.heap.size w w')) (h9 : (e2 != 0) = true) :
    Calls Tryz.prog 55 #[.string s] w fun e w' => e = .returned (.tuple #[.agg #[.int .i64 0, .int .i64 0], .int .i64 140]) ∧ Below w.heap.size w w' := by
  subst h2
  subst hbl
  go_enter Tryz.func55, Tryz.ntmps55
  go_wp2_with fail
  refine (HC.out _).mono ?_; rintro e w1 ⟨rfl, rfl⟩
  go_wp2_with fail
  refine (HK.out _).mono ?_; rintro e w1 ⟨rfl, nd, rfl⟩
  go_wp2_with fail
  refine ((HR.out _ (he.stays (below_drawN nd ((Below.refl _ _).alloc (Nat.le_refl _) _)))).mono ?_); rintro e w1 ⟨rfl, hb1⟩
  obtain ⟨c0, c1, f0, f1, hz, hbw⟩ := own2d hb1
  clear hb1
  go_wp2_with fail
  refine (HP.out _).mono ?_; rintro e w2 ⟨rfl, rfl⟩
  go_wp2_with fail
  refine (HL.out _).mono ?_; rintro e w4 ⟨rfl, rfl⟩
  go_wp2_with fail
  refine ((HR2.out _ (he.stays (by assumption))).mono ?_); rintro e w5 ⟨rfl, hb5⟩
  have hk := keep1 hb5 ⟨c0, c1, f0, f1, hz, hbw⟩
  clear c0 c1 f0 f1 hz hbw hb5
  obtain ⟨c0, c1, f0, f1, hz, hbw⟩ := hk
  go_wp2_with fail
  refine bodyPost_ret (v := .tuple #[.agg #[.int .i64 0, .int .i64 0], .int .i64 140]) (by simp [results, Tryz.results55, go_sem, *]) rfl ⟨rfl, ?_⟩
  go_grown
set_option maxRecDepth 100000 in
set_option maxHeartbeats 2000000 in
theorem parse_m_np_true (s dB fB bB : ByteArray) (bl pt : Bool) (v e : Int) (w : World) (he : Env w)
    (HC : Hid (∀ w, Calls Tryz.prog 84 #[.string s, .string ⟨#[45]⟩] w fun e w' => e = .returned (.tuple #[.string dB, .bool bl]) ∧ w = w'))
    (HK : Hid (∀ w, Calls Tryz.prog 85 #[.string dB, .string ⟨#[46]⟩] w fun e w' => e = .returned (.tuple #[.string fB, .string bB, .bool pt]) ∧ ∃ n, w' = w.drewN n))
    (HR : Hid (∀ w, Env w → Calls Tryz.prog 86 #[.string fB] w fun e' w' => e' = .returned (.tuple #[.int .i64 v, .int .i64 e]) ∧ Below w.heap.size w w'))
    (h1 : (e == 21) = false) (HP : Hid (∀ w, Calls Tryz.prog 87 #[.string fB, .string ⟨#[45]⟩] w fun e w' => e = .returned (.bool false) ∧ w = w')) (h2 : pt = false) (hf : fB.size ≤ 140737488355328) (hb : bB.size ≤ 140737488355328) (aB : ByteArray) (HL : Hid (∀ w, Calls Tryz.prog 89 #[.string (fB ++ bB), .string ⟨#[48]⟩] w fun e w' => e = .returned (.string aB) ∧ w' = w)) (hbl : bl = true) (ha : ¬ aB.toList = []) (ha2 : aB.toList.isEmpty = false) (hab : aB.size ≤ 281474976710656) (n e2 : Int) (HR2 : Hid (∀ w, Env w → Calls Tryz.prog 86 #[.string (⟨#[45]⟩ ++ aB)] w fun e' w' => e' = .returned (.tuple #[.int .i64 n, .int .i64 e2]) ∧ Below w.heap.size w w')) (h9 : e2 = 0) (hn : R n) (h8 : bB.size ≤ 18) (rM : Int) (rS : Nat) (HN : Hid (norm bB.size n = (rM, rS))) :
    Calls Tryz.prog 55 #[.string s] w fun e w' => e = .returned (.tuple #[.agg #[.int .i64 rM, .int .i64 (rS : Int)], .int .i64 0]) ∧ Below w.heap.size w w' := by
  subst h2
  subst hbl
  subst h9
  go_enter Tryz.func55, Tryz.ntmps55
  go_wp2_with fail
  refine (HC.out _).mono ?_; rintro e w1 ⟨rfl, rfl⟩
  go_wp2_with fail
  refine (HK.out _).mono ?_; rintro e w1 ⟨rfl, nd, rfl⟩
  go_wp2_with fail
  refine ((HR.out _ (he.stays (below_drawN nd ((Below.refl _ _).alloc (Nat.le_refl _) _)))).mono ?_); rintro e w1 ⟨rfl, hb1⟩
  obtain ⟨c0, c1, f0, f1, hz, hbw⟩ := own2d hb1
  clear hb1
  go_wp2_with fail
  refine (HP.out _).mono ?_; rintro e w2 ⟨rfl, rfl⟩
  go_wp2_with fail
  refine (HL.out _).mono ?_; rintro e w4 ⟨rfl, rfl⟩
  go_wp2_with fail
  refine ((HR2.out _ (he.stays (by assumption))).mono ?_); rintro e w5 ⟨rfl, hb5⟩
  have hk := keep1 hb5 ⟨c0, c1, f0, f1, hz, hbw⟩
  clear c0 c1 f0 f1 hz hbw hb5
  obtain ⟨c0, c1, f0, f1, hz, hbw⟩ := hk
  go_wp2_with fail
  go_loopg [84] bB.size (fun k u wr => ∃ (j : Nat) (y : Int), k = j ∧ j ≤ 18 ∧ R y ∧ wr.cell? ⟨w5.heap.size, 0, none⟩ = some (.int .i64 y) ∧ wr.cell? ⟨w5.heap.size, 1, none⟩ = some (.int .i64 j) ∧ wr.frozen? ⟨w5.heap.size, 0, none⟩ = false ∧ wr.frozen? ⟨w5.heap.size, 1, none⟩ = false ∧ wr.cell? ⟨w.heap.size, 0, none⟩ = some (.int .i64 0) ∧ wr.cell? ⟨w.heap.size, 1, none⟩ = some (.int .i64 0) ∧ wr.frozen? ⟨w.heap.size, 0, none⟩ = false ∧ wr.frozen? ⟨w.heap.size, 1, none⟩ = false ∧ w5.heap.size < wr.heap.size ∧ Hid (norm j y = (rM, rS)) ∧ Below w.heap.size w wr)
  case atStart =>
    refine ⟨bB.size, n, rfl, h8, hn, by simp [go_sem], by simp [go_sem], by simp [go_sem], by simp [go_sem], by simp [go_sem, *], by simp [go_sem, *], by simp [go_sem, *], by simp [go_sem, *], by simp, HN, ?_⟩
    go_grown
  case round =>
    obtain ⟨j, y, rfl, hj, hy, a0, a1, b0, b1, c0', c1', f0', f1', hz', HY, hbw'⟩ := hrel
    have hlt : ¬ w5.heap.size = w.heap.size := by omega
    clear c0 c1 f0 f1 hbw
    obtain ⟨y1, y2⟩ := hy
    by_cases hj0 : gk = 0
    · subst hj0
      have hend : rM = y ∧ rS = 0 := by have := HY.out; rw [norm] at this; exact ⟨congrArg Prod.fst this.symm, congrArg Prod.snd this.symm⟩
      obtain ⟨rfl, rfl⟩ := hend
      go_wp2_with fail
      refine bodyPost_ret (v := .tuple #[.agg #[.int .i64 rM, .int .i64 ((0 : Nat) : Int)], .int .i64 0]) (by simp [results, Tryz.results55, go_sem, *]) rfl ⟨rfl, ?_⟩
      go_grown
    · obtain ⟨i, rfl⟩ : ∃ i, gk = i + 1 := ⟨gk - 1, by omega⟩
      by_cases hm : y % 10 = 0
      · have ht : (y.tmod 10 == 0) = true := by rw [beq_iff_eq]; exact (tmod_zero y).2 hm
        obtain ⟨z, hq⟩ : ∃ z, y.tdiv 10 = z := ⟨_, rfl⟩
        have hqz : z = y / 10 := by rw [← hq, Int.tdiv_eq_ediv_of_dvd (Int.dvd_of_emod_eq_zero hm)]
        have HY2 : Hid (norm i z = (rM, rS)) := Lib.hid (by have := HY.out; rw [norm, if_pos hm, ← hqz] at this; exact this)
        have zb : -9223372036854775808 ≤ z ∧ z ≤ 9223372036854775807 := by omega
        obtain ⟨z1, z2⟩ := zb
        clear hqz hm hj0
        go_wp2_with fail
        go_roundg i
        case measure => omega
        case rel =>
          refine ⟨i, z, rfl, by omega, ⟨z1, z2⟩, by simp [go_sem, *], by simp [go_sem, *], by simp [go_sem, *], by simp [go_sem, *], by simp [go_sem, *], by simp [go_sem, *], by simp [go_sem, *], by simp [go_sem, *], by simpa using hz', HY2, ?_⟩
          go_grown
      · have ht : (y.tmod 10 == 0) = false := by rw [beq_eq_false_iff_ne]; exact fun h => hm ((tmod_zero y).1 h)
        have hend : rM = y ∧ rS = i + 1 := by have := HY.out; rw [norm, if_neg hm] at this; exact ⟨congrArg Prod.fst this.symm, congrArg Prod.snd this.symm⟩
        obtain ⟨rfl, rfl⟩ := hend
        clear hm hj0
        go_wp2_with fail
        refine bodyPost_ret (v := .tuple #[.agg #[.int .i64 rM, .int .i64 ((i : Int) + 1)], .int .i64 0]) (by simp [results, Tryz.results55, go_sem, *]) rfl ⟨rfl, ?_⟩
        go_grown
set_option maxRecDepth 100000 in
set_option maxHeartbeats 2000000 in
theorem parse_z_pt (s dB fB bB : ByteArray) (bl pt : Bool) (v e : Int) (w : World) (he : Env w)
    (HC : Hid (∀ w, Calls Tryz.prog 84 #[.string s, .string ⟨#[45]⟩] w fun e w' => e = .returned (.tuple #[.string dB, .bool bl]) ∧ w = w'))
    (HK : Hid (∀ w, Calls Tryz.prog 85 #[.string dB, .string ⟨#[46]⟩] w fun e w' => e = .returned (.tuple #[.string fB, .string bB, .bool pt]) ∧ ∃ n, w' = w.drewN n))
    (HR : Hid (∀ w, Env w → Calls Tryz.prog 86 #[.string fB] w fun e' w' => e' = .returned (.tuple #[.int .i64 v, .int .i64 e]) ∧ Below w.heap.size w w'))
    (h1 : (e == 21) = false) (HP : Hid (∀ w, Calls Tryz.prog 87 #[.string fB, .string ⟨#[45]⟩] w fun e w' => e = .returned (.bool false) ∧ w = w')) (tB : ByteArray) (h2 : pt = true) (h3 : ¬ bB.toList = []) (h4 : bB.toList.isEmpty = false) (h5 : bB.size ≤ 18) (HT : Hid (∀ w, Calls Tryz.prog 88 #[.string bB, .string ⟨#[48, 49, 50, 51, 52, 53, 54, 55, 56, 57]⟩] w fun e w' => e = .returned (.string tB) ∧ Below w.heap.size w w')) (h6 : tB.toList = []) (h7 : tB.toList.isEmpty = true) (hf : fB.size ≤ 140737488355328) (hb : bB.size ≤ 140737488355328) (aB : ByteArray) (HL : Hid (∀ w, Calls Tryz.prog 89 #[.string (fB ++ bB), .string ⟨#[48]⟩] w fun e w' => e = .returned (.string aB) ∧ w' = w)) (ha : aB.toList = []) (ha2 : aB.toList.isEmpty = true) :
    Calls Tryz.prog 55 #[.string s] w fun e w' => e = .returned (.tuple #[.agg #[.int .i64 0, .int .i64 0], .int .i64 0]) ∧ Below w.heap.size w w' := by
  subst h2
  go_enter Tryz.func55, Tryz.ntmps55
  go_wp2_with fail
  refine (HC.out _).mono ?_; rintro e w1 ⟨rfl, rfl⟩
  go_wp2_with fail
  refine (HK.out _).mono ?_; rintro e w1 ⟨rfl, nd, rfl⟩
  go_wp2_with fail
  refine ((HR.out _ (he.stays (below_drawN nd ((Below.refl _ _).alloc (Nat.le_refl _) _)))).mono ?_); rintro e w1 ⟨rfl, hb1⟩
  obtain ⟨c0, c1, f0, f1, hz, hbw⟩ := own2d hb1
  clear hb1
  go_wp2_with fail
  refine (HP.out _).mono ?_; rintro e w2 ⟨rfl, rfl⟩
  go_wp2_with fail
  refine (HT.out _).mono ?_; rintro e w2 ⟨rfl, hb2⟩
  have hk := keep1 hb2 ⟨c0, c1, f0, f1, hz, hbw⟩
  clear c0 c1 f0 f1 hz hbw hb2
  obtain ⟨c0, c1, f0, f1, hz, hbw⟩ := hk
  go_wp2_with fail
  refine (HL.out _).mono ?_; rintro e w4 ⟨rfl, rfl⟩
  go_wp2_with fail
  refine bodyPost_ret (v := .tuple #[.agg #[.int .i64 0, .int .i64 0], .int .i64 0]) (by simp [results, Tryz.results55, go_sem, *]) rfl ⟨rfl, ?_⟩
  go_grown
set_option maxRecDepth 100000 in
set_option maxHeartbeats 2000000 in
theorem parse_o_pt_false (s dB fB bB : ByteArray) (bl pt : Bool) (v e : Int) (w : World) (he : Env w)
    (HC : Hid (∀ w, Calls Tryz.prog 84 #[.string s, .string ⟨#[45]⟩] w fun e w' => e = .returned (.tuple #[.string dB, .bool bl]) ∧ w = w'))
    (HK : Hid (∀ w, Calls Tryz.prog 85 #[.string dB, .string ⟨#[46]⟩] w fun e w' => e = .returned (.tuple #[.string fB, .string bB, .bool pt]) ∧ ∃ n, w' = w.drewN n))
    (HR : Hid (∀ w, Env w → Calls Tryz.prog 86 #[.string fB] w fun e' w' => e' = .returned (.tuple #[.int .i64 v, .int .i64 e]) ∧ Below w.heap.size w w'))
    (h1 : (e == 21) = false) (HP : Hid (∀ w, Calls Tryz.prog 87 #[.string fB, .string ⟨#[45]⟩] w fun e w' => e = .returned (.bool false) ∧ w = w')) (tB : ByteArray) (h2 : pt = true) (h3 : ¬ bB.toList = []) (h4 : bB.toList.isEmpty = false) (h5 : bB.size ≤ 18) (HT : Hid (∀ w, Calls Tryz.prog 88 #[.string bB, .string ⟨#[48, 49, 50, 51, 52, 53, 54, 55, 56, 57]⟩] w fun e w' => e = .returned (.string tB) ∧ Below w.heap.size w w')) (h6 : tB.toList = []) (h7 : tB.toList.isEmpty = true) (hf : fB.size ≤ 140737488355328) (hb : bB.size ≤ 140737488355328) (aB : ByteArray) (HL : Hid (∀ w, Calls Tryz.prog 89 #[.string (fB ++ bB), .string ⟨#[48]⟩] w fun e w' => e = .returned (.string aB) ∧ w' = w)) (hbl : bl = false) (ha : ¬ aB.toList = []) (ha2 : aB.toList.isEmpty = false) (hab : aB.size ≤ 281474976710656) (n e2 : Int) (HR2 : Hid (∀ w, Env w → Calls Tryz.prog 86 #[.string aB] w fun e' w' => e' = .returned (.tuple #[.int .i64 n, .int .i64 e2]) ∧ Below w.heap.size w w')) (h9 : (e2 != 0) = true) :
    Calls Tryz.prog 55 #[.string s] w fun e w' => e = .returned (.tuple #[.agg #[.int .i64 0, .int .i64 0], .int .i64 140]) ∧ Below w.heap.size w w' := by
  subst h2
  subst hbl
  go_enter Tryz.func55, Tryz.ntmps55
  go_wp2_with fail
  refine (HC.out _).mono ?_; rintro e w1 ⟨rfl, rfl⟩
  go_wp2_with fail
  refine (HK.out _).mono ?_; rintro e w1 ⟨rfl, nd, rfl⟩
  go_wp2_with fail
  refine ((HR.out _ (he.stays (below_drawN nd ((Below.refl _ _).alloc (Nat.le_refl _) _)))).mono ?_); rintro e w1 ⟨rfl, hb1⟩
  obtain ⟨c0, c1, f0, f1, hz, hbw⟩ := own2d hb1
  clear hb1
  go_wp2_with fail
  refine (HP.out _).mono ?_; rintro e w2 ⟨rfl, rfl⟩
  go_wp2_with fail
  refine (HT.out _).mono ?_; rintro e w2 ⟨rfl, hb2⟩
  have hk := keep1 hb2 ⟨c0, c1, f0, f1, hz, hbw⟩
  clear c0 c1 f0 f1 hz hbw hb2
  obtain ⟨c0, c1, f0, f1, hz, hbw⟩ := hk
  go_wp2_with fail
  refine (HL.out _).mono ?_; rintro e w4 ⟨rfl, rfl⟩
  go_wp2_with fail
  refine ((HR2.out _ (he.stays (by assumption))).mono ?_); rintro e w5 ⟨rfl, hb5⟩
  have hk := keep1 hb5 ⟨c0, c1, f0, f1, hz, hbw⟩
  clear c0 c1 f0 f1 hz hbw hb5
  obtain ⟨c0, c1, f0, f1, hz, hbw⟩ := hk
  go_wp2_with fail
  refine bodyPost_ret (v := .tuple #[.agg #[.int .i64 0, .int .i64 0], .int .i64 140]) (by simp [results, Tryz.results55, go_sem, *]) rfl ⟨rfl, ?_⟩
  go_grown
set_option maxRecDepth 100000 in
set_option maxHeartbeats 2000000 in
theorem parse_m_pt_false (s dB fB bB : ByteArray) (bl pt : Bool) (v e : Int) (w : World) (he : Env w)
    (HC : Hid (∀ w, Calls Tryz.prog 84 #[.string s, .string ⟨#[45]⟩] w fun e w' => e = .returned (.tuple #[.string dB, .bool bl]) ∧ w = w'))
    (HK : Hid (∀ w, Calls Tryz.prog 85 #[.string dB, .string ⟨#[46]⟩] w fun e w' => e = .returned (.tuple #[.string fB, .string bB, .bool pt]) ∧ ∃ n, w' = w.drewN n))
    (HR : Hid (∀ w, Env w → Calls Tryz.prog 86 #[.string fB] w fun e' w' => e' = .returned (.tuple #[.int .i64 v, .int .i64 e]) ∧ Below w.heap.size w w'))
    (h1 : (e == 21) = false) (HP : Hid (∀ w, Calls Tryz.prog 87 #[.string fB, .string ⟨#[45]⟩] w fun e w' => e = .returned (.bool false) ∧ w = w')) (tB : ByteArray) (h2 : pt = true) (h3 : ¬ bB.toList = []) (h4 : bB.toList.isEmpty = false) (h5 : bB.size ≤ 18) (HT : Hid (∀ w, Calls Tryz.prog 88 #[.string bB, .string ⟨#[48, 49, 50, 51, 52, 53, 54, 55, 56, 57]⟩] w fun e w' => e = .returned (.string tB) ∧ Below w.heap.size w w')) (h6 : tB.toList = []) (h7 : tB.toList.isEmpty = true) (hf : fB.size ≤ 140737488355328) (hb : bB.size ≤ 140737488355328) (aB : ByteArray) (HL : Hid (∀ w, Calls Tryz.prog 89 #[.string (fB ++ bB), .string ⟨#[48]⟩] w fun e w' => e = .returned (.string aB) ∧ w' = w)) (hbl : bl = false) (ha : ¬ aB.toList = []) (ha2 : aB.toList.isEmpty = false) (hab : aB.size ≤ 281474976710656) (n e2 : Int) (HR2 : Hid (∀ w, Env w → Calls Tryz.prog 86 #[.string aB] w fun e' w' => e' = .returned (.tuple #[.int .i64 n, .int .i64 e2]) ∧ Below w.heap.size w w')) (h9 : e2 = 0) (hn : R n) (h8 : bB.size ≤ 18) (rM : Int) (rS : Nat) (HN : Hid (norm bB.size n = (rM, rS))) :
    Calls Tryz.prog 55 #[.string s] w fun e w' => e = .returned (.tuple #[.agg #[.int .i64 rM, .int .i64 (rS : Int)], .int .i64 0]) ∧ Below w.heap.size w w' := by
  subst h2
  subst hbl
  subst h9
  go_enter Tryz.func55, Tryz.ntmps55
  go_wp2_with fail
  refine (HC.out _).mono ?_; rintro e w1 ⟨rfl, rfl⟩
  go_wp2_with fail
  refine (HK.out _).mono ?_; rintro e w1 ⟨rfl, nd, rfl⟩
  go_wp2_with fail
  refine ((HR.out _ (he.stays (below_drawN nd ((Below.refl _ _).alloc (Nat.le_refl _) _)))).mono ?_); rintro e w1 ⟨rfl, hb1⟩
  obtain ⟨c0, c1, f0, f1, hz, hbw⟩ := own2d hb1
  clear hb1
  go_wp2_with fail
  refine (HP.out _).mono ?_; rintro e w2 ⟨rfl, rfl⟩
  go_wp2_with fail
  refine (HT.out _).mono ?_; rintro e w2 ⟨rfl, hb2⟩
  have hk := keep1 hb2 ⟨c0, c1, f0, f1, hz, hbw⟩
  clear c0 c1 f0 f1 hz hbw hb2
  obtain ⟨c0, c1, f0, f1, hz, hbw⟩ := hk
  go_wp2_with fail
  refine (HL.out _).mono ?_; rintro e w4 ⟨rfl, rfl⟩
  go_wp2_with fail
  refine ((HR2.out _ (he.stays (by assumption))).mono ?_); rintro e w5 ⟨rfl, hb5⟩
  have hk := keep1 hb5 ⟨c0, c1, f0, f1, hz, hbw⟩
  clear c0 c1 f0 f1 hz hbw hb5
  obtain ⟨c0, c1, f0, f1, hz, hbw⟩ := hk
  go_wp2_with fail
  go_loopg [84] bB.size (fun k u wr => ∃ (j : Nat) (y : Int), k = j ∧ j ≤ 18 ∧ R y ∧ wr.cell? ⟨w5.heap.size, 0, none⟩ = some (.int .i64 y) ∧ wr.cell? ⟨w5.heap.size, 1, none⟩ = some (.int .i64 j) ∧ wr.frozen? ⟨w5.heap.size, 0, none⟩ = false ∧ wr.frozen? ⟨w5.heap.size, 1, none⟩ = false ∧ wr.cell? ⟨w.heap.size, 0, none⟩ = some (.int .i64 0) ∧ wr.cell? ⟨w.heap.size, 1, none⟩ = some (.int .i64 0) ∧ wr.frozen? ⟨w.heap.size, 0, none⟩ = false ∧ wr.frozen? ⟨w.heap.size, 1, none⟩ = false ∧ w5.heap.size < wr.heap.size ∧ Hid (norm j y = (rM, rS)) ∧ Below w.heap.size w wr)
  case atStart =>
    refine ⟨bB.size, n, rfl, h8, hn, by simp [go_sem], by simp [go_sem], by simp [go_sem], by simp [go_sem], by simp [go_sem, *], by simp [go_sem, *], by simp [go_sem, *], by simp [go_sem, *], by simp, HN, ?_⟩
    go_grown
  case round =>
    obtain ⟨j, y, rfl, hj, hy, a0, a1, b0, b1, c0', c1', f0', f1', hz', HY, hbw'⟩ := hrel
    have hlt : ¬ w5.heap.size = w.heap.size := by omega
    clear c0 c1 f0 f1 hbw
    obtain ⟨y1, y2⟩ := hy
    by_cases hj0 : gk = 0
    · subst hj0
      have hend : rM = y ∧ rS = 0 := by have := HY.out; rw [norm] at this; exact ⟨congrArg Prod.fst this.symm, congrArg Prod.snd this.symm⟩
      obtain ⟨rfl, rfl⟩ := hend
      go_wp2_with fail
      refine bodyPost_ret (v := .tuple #[.agg #[.int .i64 rM, .int .i64 ((0 : Nat) : Int)], .int .i64 0]) (by simp [results, Tryz.results55, go_sem, *]) rfl ⟨rfl, ?_⟩
      go_grown
    · obtain ⟨i, rfl⟩ : ∃ i, gk = i + 1 := ⟨gk - 1, by omega⟩
      by_cases hm : y % 10 = 0
      · have ht : (y.tmod 10 == 0) = true := by rw [beq_iff_eq]; exact (tmod_zero y).2 hm
        obtain ⟨z, hq⟩ : ∃ z, y.tdiv 10 = z := ⟨_, rfl⟩
        have hqz : z = y / 10 := by rw [← hq, Int.tdiv_eq_ediv_of_dvd (Int.dvd_of_emod_eq_zero hm)]
        have HY2 : Hid (norm i z = (rM, rS)) := Lib.hid (by have := HY.out; rw [norm, if_pos hm, ← hqz] at this; exact this)
        have zb : -9223372036854775808 ≤ z ∧ z ≤ 9223372036854775807 := by omega
        obtain ⟨z1, z2⟩ := zb
        clear hqz hm hj0
        go_wp2_with fail
        go_roundg i
        case measure => omega
        case rel =>
          refine ⟨i, z, rfl, by omega, ⟨z1, z2⟩, by simp [go_sem, *], by simp [go_sem, *], by simp [go_sem, *], by simp [go_sem, *], by simp [go_sem, *], by simp [go_sem, *], by simp [go_sem, *], by simp [go_sem, *], by simpa using hz', HY2, ?_⟩
          go_grown
      · have ht : (y.tmod 10 == 0) = false := by rw [beq_eq_false_iff_ne]; exact fun h => hm ((tmod_zero y).1 h)
        have hend : rM = y ∧ rS = i + 1 := by have := HY.out; rw [norm, if_neg hm] at this; exact ⟨congrArg Prod.fst this.symm, congrArg Prod.snd this.symm⟩
        obtain ⟨rfl, rfl⟩ := hend
        clear hm hj0
        go_wp2_with fail
        refine bodyPost_ret (v := .tuple #[.agg #[.int .i64 rM, .int .i64 ((i : Int) + 1)], .int .i64 0]) (by simp [results, Tryz.results55, go_sem, *]) rfl ⟨rfl, ?_⟩
        go_grown
set_option maxRecDepth 100000 in
set_option maxHeartbeats 2000000 in
theorem parse_o_pt_true (s dB fB bB : ByteArray) (bl pt : Bool) (v e : Int) (w : World) (he : Env w)
    (HC : Hid (∀ w, Calls Tryz.prog 84 #[.string s, .string ⟨#[45]⟩] w fun e w' => e = .returned (.tuple #[.string dB, .bool bl]) ∧ w = w'))
    (HK : Hid (∀ w, Calls Tryz.prog 85 #[.string dB, .string ⟨#[46]⟩] w fun e w' => e = .returned (.tuple #[.string fB, .string bB, .bool pt]) ∧ ∃ n, w' = w.drewN n))
    (HR : Hid (∀ w, Env w → Calls Tryz.prog 86 #[.string fB] w fun e' w' => e' = .returned (.tuple #[.int .i64 v, .int .i64 e]) ∧ Below w.heap.size w w'))
    (h1 : (e == 21) = false) (HP : Hid (∀ w, Calls Tryz.prog 87 #[.string fB, .string ⟨#[45]⟩] w fun e w' => e = .returned (.bool false) ∧ w = w')) (tB : ByteArray) (h2 : pt = true) (h3 : ¬ bB.toList = []) (h4 : bB.toList.isEmpty = false) (h5 : bB.size ≤ 18) (HT : Hid (∀ w, Calls Tryz.prog 88 #[.string bB, .string ⟨#[48, 49, 50, 51, 52, 53, 54, 55, 56, 57]⟩] w fun e w' => e = .returned (.string tB) ∧ Below w.heap.size w w')) (h6 : tB.toList = []) (h7 : tB.toList.isEmpty = true) (hf : fB.size ≤ 140737488355328) (hb : bB.size ≤ 140737488355328) (aB : ByteArray) (HL : Hid (∀ w, Calls Tryz.prog 89 #[.string (fB ++ bB), .string ⟨#[48]⟩] w fun e w' => e = .returned (.string aB) ∧ w' = w)) (hbl : bl = true) (ha : ¬ aB.toList = []) (ha2 : aB.toList.isEmpty = false) (hab : aB.size ≤ 281474976710656) (n e2 : Int) (HR2 : Hid (∀ w, Env w → Calls Tryz.prog 86 #[.string (⟨#[45]⟩ ++ aB)] w fun e' w' => e' = .returned (.tuple #[.int .i64 n, .int .i64 e2]) ∧ Below w.heap.size w w')) (h9 : (e2 != 0) = true) :
    Calls Tryz.prog 55 #[.string s] w fun e w' => e = .returned (.tuple #[.agg #[.int .i64 0, .int .i64 0], .int .i64 140]) ∧ Below w.heap.size w w' := by
  subst h2
  subst hbl
  go_enter Tryz.func55, Tryz.ntmps55
  go_wp2_with fail
  refine (HC.out _).mono ?_; rintro e w1 ⟨rfl, rfl⟩
  go_wp2_with fail
  refine (HK.out _).mono ?_; rintro e w1 ⟨rfl, nd, rfl⟩
  go_wp2_with fail
  refine ((HR.out _ (he.stays (below_drawN nd ((Below.refl _ _).alloc (Nat.le_refl _) _)))).mono ?_); rintro e w1 ⟨rfl, hb1⟩
  obtain ⟨c0, c1, f0, f1, hz, hbw⟩ := own2d hb1
  clear hb1
  go_wp2_with fail
  refine (HP.out _).mono ?_; rintro e w2 ⟨rfl, rfl⟩
  go_wp2_with fail
  refine (HT.out _).mono ?_; rintro e w2 ⟨rfl, hb2⟩
  have hk := keep1 hb2 ⟨c0, c1, f0, f1, hz, hbw⟩
  clear c0 c1 f0 f1 hz hbw hb2
  obtain ⟨c0, c1, f0, f1, hz, hbw⟩ := hk
  go_wp2_with fail
  refine (HL.out _).mono ?_; rintro e w4 ⟨rfl, rfl⟩
  go_wp2_with fail
  refine ((HR2.out _ (he.stays (by assumption))).mono ?_); rintro e w5 ⟨rfl, hb5⟩
  have hk := keep1 hb5 ⟨c0, c1, f0, f1, hz, hbw⟩
  clear c0 c1 f0 f1 hz hbw hb5
  obtain ⟨c0, c1, f0, f1, hz, hbw⟩ := hk
  go_wp2_with fail
  refine bodyPost_ret (v := .tuple #[.agg #[.int .i64 0, .int .i64 0], .int .i64 140]) (by simp [results, Tryz.results55, go_sem, *]) rfl ⟨rfl, ?_⟩
  go_grown
set_option maxRecDepth 100000 in
set_option maxHeartbeats 2000000 in
theorem parse_m_pt_true (s dB fB bB : ByteArray) (bl pt : Bool) (v e : Int) (w : World) (he : Env w)
    (HC : Hid (∀ w, Calls Tryz.prog 84 #[.string s, .string ⟨#[45]⟩] w fun e w' => e = .returned (.tuple #[.string dB, .bool bl]) ∧ w = w'))
    (HK : Hid (∀ w, Calls Tryz.prog 85 #[.string dB, .string ⟨#[46]⟩] w fun e w' => e = .returned (.tuple #[.string fB, .string bB, .bool pt]) ∧ ∃ n, w' = w.drewN n))
    (HR : Hid (∀ w, Env w → Calls Tryz.prog 86 #[.string fB] w fun e' w' => e' = .returned (.tuple #[.int .i64 v, .int .i64 e]) ∧ Below w.heap.size w w'))
    (h1 : (e == 21) = false) (HP : Hid (∀ w, Calls Tryz.prog 87 #[.string fB, .string ⟨#[45]⟩] w fun e w' => e = .returned (.bool false) ∧ w = w')) (tB : ByteArray) (h2 : pt = true) (h3 : ¬ bB.toList = []) (h4 : bB.toList.isEmpty = false) (h5 : bB.size ≤ 18) (HT : Hid (∀ w, Calls Tryz.prog 88 #[.string bB, .string ⟨#[48, 49, 50, 51, 52, 53, 54, 55, 56, 57]⟩] w fun e w' => e = .returned (.string tB) ∧ Below w.heap.size w w')) (h6 : tB.toList = []) (h7 : tB.toList.isEmpty = true) (hf : fB.size ≤ 140737488355328) (hb : bB.size ≤ 140737488355328) (aB : ByteArray) (HL : Hid (∀ w, Calls Tryz.prog 89 #[.string (fB ++ bB), .string ⟨#[48]⟩] w fun e w' => e = .returned (.string aB) ∧ w' = w)) (hbl : bl = true) (ha : ¬ aB.toList = []) (ha2 : aB.toList.isEmpty = false) (hab : aB.size ≤ 281474976710656) (n e2 : Int) (HR2 : Hid (∀ w, Env w → Calls Tryz.prog 86 #[.string (⟨#[45]⟩ ++ aB)] w fun e' w' => e' = .returned (.tuple #[.int .i64 n, .int .i64 e2]) ∧ Below w.heap.size w w')) (h9 : e2 = 0) (hn : R n) (h8 : bB.size ≤ 18) (rM : Int) (rS : Nat) (HN : Hid (norm bB.size n = (rM, rS))) :
    Calls Tryz.prog 55 #[.string s] w fun e w' => e = .returned (.tuple #[.agg #[.int .i64 rM, .int .i64 (rS : Int)], .int .i64 0]) ∧ Below w.heap.size w w' := by
  subst h2
  subst hbl
  subst h9
  go_enter Tryz.func55, Tryz.ntmps55
  go_wp2_with fail
  refine (HC.out _).mono ?_; rintro e w1 ⟨rfl, rfl⟩
  go_wp2_with fail
  refine (HK.out _).mono ?_; rintro e w1 ⟨rfl, nd, rfl⟩
  go_wp2_with fail
  refine ((HR.out _ (he.stays (below_drawN nd ((Below.refl _ _).alloc (Nat.le_refl _) _)))).mono ?_); rintro e w1 ⟨rfl, hb1⟩
  obtain ⟨c0, c1, f0, f1, hz, hbw⟩ := own2d hb1
  clear hb1
  go_wp2_with fail
  refine (HP.out _).mono ?_; rintro e w2 ⟨rfl, rfl⟩
  go_wp2_with fail
  refine (HT.out _).mono ?_; rintro e w2 ⟨rfl, hb2⟩
  have hk := keep1 hb2 ⟨c0, c1, f0, f1, hz, hbw⟩
  clear c0 c1 f0 f1 hz hbw hb2
  obtain ⟨c0, c1, f0, f1, hz, hbw⟩ := hk
  go_wp2_with fail
  refine (HL.out _).mono ?_; rintro e w4 ⟨rfl, rfl⟩
  go_wp2_with fail
  refine ((HR2.out _ (he.stays (by assumption))).mono ?_); rintro e w5 ⟨rfl, hb5⟩
  have hk := keep1 hb5 ⟨c0, c1, f0, f1, hz, hbw⟩
  clear c0 c1 f0 f1 hz hbw hb5
  obtain ⟨c0, c1, f0, f1, hz, hbw⟩ := hk
  go_wp2_with fail
  go_loopg [84] bB.size (fun k u wr => ∃ (j : Nat) (y : Int), k = j ∧ j ≤ 18 ∧ R y ∧ wr.cell? ⟨w5.heap.size, 0, none⟩ = some (.int .i64 y) ∧ wr.cell? ⟨w5.heap.size, 1, none⟩ = some (.int .i64 j) ∧ wr.frozen? ⟨w5.heap.size, 0, none⟩ = false ∧ wr.frozen? ⟨w5.heap.size, 1, none⟩ = false ∧ wr.cell? ⟨w.heap.size, 0, none⟩ = some (.int .i64 0) ∧ wr.cell? ⟨w.heap.size, 1, none⟩ = some (.int .i64 0) ∧ wr.frozen? ⟨w.heap.size, 0, none⟩ = false ∧ wr.frozen? ⟨w.heap.size, 1, none⟩ = false ∧ w5.heap.size < wr.heap.size ∧ Hid (norm j y = (rM, rS)) ∧ Below w.heap.size w wr)
  case atStart =>
    refine ⟨bB.size, n, rfl, h8, hn, by simp [go_sem], by simp [go_sem], by simp [go_sem], by simp [go_sem], by simp [go_sem, *], by simp [go_sem, *], by simp [go_sem, *], by simp [go_sem, *], by simp, HN, ?_⟩
    go_grown
  case round =>
    obtain ⟨j, y, rfl, hj, hy, a0, a1, b0, b1, c0', c1', f0', f1', hz', HY, hbw'⟩ := hrel
    have hlt : ¬ w5.heap.size = w.heap.size := by omega
    clear c0 c1 f0 f1 hbw
    obtain ⟨y1, y2⟩ := hy
    by_cases hj0 : gk = 0
    · subst hj0
      have hend : rM = y ∧ rS = 0 := by have := HY.out; rw [norm] at this; exact ⟨congrArg Prod.fst this.symm, congrArg Prod.snd this.symm⟩
      obtain ⟨rfl, rfl⟩ := hend
      go_wp2_with fail
      refine bodyPost_ret (v := .tuple #[.agg #[.int .i64 rM, .int .i64 ((0 : Nat) : Int)], .int .i64 0]) (by simp [results, Tryz.results55, go_sem, *]) rfl ⟨rfl, ?_⟩
      go_grown
    · obtain ⟨i, rfl⟩ : ∃ i, gk = i + 1 := ⟨gk - 1, by omega⟩
      by_cases hm : y % 10 = 0
      · have ht : (y.tmod 10 == 0) = true := by rw [beq_iff_eq]; exact (tmod_zero y).2 hm
        obtain ⟨z, hq⟩ : ∃ z, y.tdiv 10 = z := ⟨_, rfl⟩
        have hqz : z = y / 10 := by rw [← hq, Int.tdiv_eq_ediv_of_dvd (Int.dvd_of_emod_eq_zero hm)]
        have HY2 : Hid (norm i z = (rM, rS)) := Lib.hid (by have := HY.out; rw [norm, if_pos hm, ← hqz] at this; exact this)
        have zb : -9223372036854775808 ≤ z ∧ z ≤ 9223372036854775807 := by omega
        obtain ⟨z1, z2⟩ := zb
        clear hqz hm hj0
        go_wp2_with fail
        go_roundg i
        case measure => omega
        case rel =>
          refine ⟨i, z, rfl, by omega, ⟨z1, z2⟩, by simp [go_sem, *], by simp [go_sem, *], by simp [go_sem, *], by simp [go_sem, *], by simp [go_sem, *], by simp [go_sem, *], by simp [go_sem, *], by simp [go_sem, *], by simpa using hz', HY2, ?_⟩
          go_grown
      · have ht : (y.tmod 10 == 0) = false := by rw [beq_eq_false_iff_ne]; exact fun h => hm ((tmod_zero y).1 h)
        have hend : rM = y ∧ rS = i + 1 := by have := HY.out; rw [norm, if_neg hm] at this; exact ⟨congrArg Prod.fst this.symm, congrArg Prod.snd this.symm⟩
        obtain ⟨rfl, rfl⟩ := hend
        clear hm hj0
        go_wp2_with fail
        refine bodyPost_ret (v := .tuple #[.agg #[.int .i64 rM, .int .i64 ((i : Int) + 1)], .int .i64 0]) (by simp [results, Tryz.results55, go_sem, *]) rfl ⟨rfl, ?_⟩
        go_grown
end Go.Proofs.YtjhgiojmlkeccaaGreatDoor
namespace Go.Proofs.YtjhgiojmlkeccaaGreatDoor
open Go.RowKit
theorem num_drop0 : ∀ l : List UInt8, num (l.dropWhile (· == 48)) = num l
  | [] => rfl
  | c :: l => by
    by_cases h : c = 48
    · subst h
      rw [List.dropWhile_cons_of_pos (by rfl), num_drop0 l]
      have := num_zeros 1 l
      exact this.symm
    · rw [List.dropWhile_cons_of_neg (by simpa using h)]
theorem ok_drop0 (l : List UInt8) (h : l.all isDig = true) (hz : l.dropWhile (· == 48) ≠ []) : okDigits (l.dropWhile (· == 48)) = true := by
  have ha : (l.dropWhile (· == 48)).all isDig = true := List.all_eq_true.2 fun x hx => List.all_eq_true.1 h x ((List.dropWhile_sublist _).subset hx)
  have hh := List.head_dropWhile_not (p := (· == (48 : UInt8))) (l := l) hz
  generalize l.dropWhile (· == 48) = z at *
  obtain ⟨c, r, rfl⟩ : ∃ c r, z = c :: r := by
    cases z with
    | nil => exact absurd rfl hz
    | cons c r => exact ⟨c, r, rfl⟩
  unfold okDigits digitsB
  rw [ha]
  simp only [List.head_cons] at hh
  have : ((c :: r).head? == some 48) = false := by
    simp only [List.head?_cons]
    rw [beq_eq_false_iff_ne] at hh ⊢
    simpa using hh
  rw [this]; rfl
theorem ok_below (l : List UInt8) (h : okDigits l = true) : below l = false := by
  cases l with
  | nil => rfl
  | cons c r =>
    simp only [okDigits, digitsB, Bool.and_eq_true, List.all_cons] at h
    exact dig_dash h.1.1.1
theorem body_id (l : List UInt8) (h : below l = false) : body l = l := by unfold body; rw [h]; rfl
theorem okd_all (l : List UInt8) (h : okDigits l = true) : l.all isDig = true := by
  simp only [okDigits, digitsB, Bool.and_eq_true] at h; exact h.1.1
theorem rdE_bad (l : List UInt8) (h : okDigits (body l) = false) : rdE l = 21 := by unfold rdE; rw [h]; rfl
theorem rdE_fine (l : List UInt8) (h : okDigits (body l) = true) : (rdE l == 21) = false := by
  unfold rdE err; rw [h]; simp only [if_true, beq_eq_false_iff_ne]; split <;> omega
theorem p_bad (l : List UInt8) (h : parseOk l = false) : pM l = 0 ∧ pS l = 0 ∧ pE l = 140 := by
  unfold pM pS pE; rw [h]; exact ⟨rfl, rfl, rfl⟩
theorem p_fine (l : List UInt8) (h : parseOk l = true) : pM l = (norm (back (body l)).length (pN l)).1 ∧ pS l = ((norm (back (body l)).length (pN l)).2 : Nat) ∧ pE l = 0 := by
  unfold pM pS pE; rw [h]; exact ⟨rfl, rfl, rfl⟩
theorem p_zero (l : List UInt8) (h : parseOk l = true) (h0 : pN l = 0) : pM l = 0 ∧ pS l = 0 ∧ pE l = 0 := by
  obtain ⟨h1, h2, h3⟩ := p_fine l h
  rw [h1, h2, h3, h0, norm_zero]; exact ⟨rfl, rfl, rfl⟩
theorem toList_mk (l : List UInt8) : (⟨l.toArray⟩ : ByteArray).toList = l := by rw [ByteArray.toList_eq]
theorem size_mk (l : List UInt8) : (⟨l.toArray⟩ : ByteArray).size = l.length := by show l.toArray.size = _; simp
theorem front_len (l : List UInt8) : (front l).length ≤ l.length := (List.takeWhile_sublist _).length_le
theorem back_len (l : List UInt8) : (back l).length ≤ l.length := by
  unfold back
  have := (List.dropWhile_sublist (p := (· != (46 : UInt8))) (l := l)).length_le
  rw [List.length_tail]; omega
theorem rd_pos (z : List UInt8) (h : okDigits z = true) : rdV z = val (num z) ∧ rdE z = err (num z) := by
  have hb := ok_below z h
  unfold rdV rdE signed
  rw [body_id z hb, h, hb]; exact ⟨rfl, rfl⟩
theorem rd_neg (z : List UInt8) (h : okDigits z = true) : rdV (45 :: z) = val (-(num z : Int)) ∧ rdE (45 :: z) = err (-(num z : Int)) := by
  unfold rdV rdE signed
  have e : body (45 :: z) = z := rfl
  have e2 : below (45 :: z) = true := rfl
  rw [e, e2, h]; exact ⟨rfl, rfl⟩
theorem err_ne {n : Int} (h : inR n = false) : (err n != 0) = true := by
  rw [err_out (fun q => by rw [(inR_iff n).2 q] at h; cases h)]; rfl
theorem mparse_any (s : ByteArray) (hs : s.size ≤ 1000000) (w : World) (he : Env w) :
    Calls Tryz.prog 55 #[.string s] w fun e w' => e = .returned (.tuple #[.agg #[.int .i64 (pM s.data.toList), .int .i64 (pS s.data.toList)], .int .i64 (pE s.data.toList)]) ∧ Below w.heap.size w w' := by
  obtain ⟨l, hl⟩ : ∃ l, s.data.toList = l := ⟨_, rfl⟩
  rw [hl]
  have hll : l.length ≤ 1000000 := by rw [← hl, Array.length_toList]; exact hs
  have hbl := body_len l
  have hfl := front_len (body l)
  have hkl := back_len (body l)
  have HC := Lib.hid (fun w => cut_dash s ⟨(body l).toArray⟩ (below l) (by rw [hl]) (by rw [hl]) w)
  have HK := Lib.hid (fun w => cut_one ⟨(body l).toArray⟩ 46 (by rw [size_mk]; unfold maxLen; omega) w)
  have HR := Lib.hid (fun w he => read_any ⟨(front (body l)).toArray⟩ (by rw [size_mk]; omega) w he)
  have HP := Lib.hid (fun w => (Tryz.strings_HasPrefix ⟨(front (body l)).toArray⟩ ⟨#[45]⟩ w).mono fun e w' ⟨a, b⟩ => (⟨a, b.symm⟩ : _ ∧ w = w'))
  rw [show (⟨(front (body l)).toArray⟩ : ByteArray).data.toList = front (body l) from rfl, show (⟨#[45]⟩ : ByteArray).data.toList = [45] from rfl, hasPrefix_dash] at HP
  rw [show (⟨(front (body l)).toArray⟩ : ByteArray).data.toList = front (body l) from rfl] at HR
  rw [show (⟨(body l).toArray⟩ : ByteArray).data.toList = body l from rfl, show (ahead 46 (body l)) = front (body l) from rfl, show (behind 46 (body l)) = back (body l) from rfl, show ((body l).contains 46) = point (body l) from rfl] at HK
  have hok : parseOk l = (okDigits (front (body l)) && (!point (body l) || okBack (back (body l))) && inR (pN l)) := rfl
  have hpN : pN l = if below l then -(num (front (body l) ++ back (body l)) : Int) else num (front (body l) ++ back (body l)) := rfl
  have hpm := p_fine l
  have hpz := p_zero l
  have hpb := p_bad l
  have hfn := front_none (body l)
  generalize pN l = N at *
  generalize parseOk l = ok at *
  generalize pM l = rM at *
  generalize pS l = rS at *
  generalize pE l = rE at *
  generalize front (body l) = f at *
  generalize back (body l) = b at *
  generalize point (body l) = pt at *
  generalize below l = bl at *
  cases h1 : okDigits (body f) with
  | false =>
    have hf : okDigits f = false := by
      cases q : okDigits f with
      | false => rfl
      | true => rw [body_id f (ok_below f q), q] at h1; cases h1
    rw [hf] at hok
    obtain ⟨rfl, rfl, rfl⟩ := hpb hok
    exact parse_e1 s _ _ _ _ _ _ _ w he HC HK HR (by rw [rdE_bad f h1]; rfl)
  | true =>
    have hE := rdE_fine f h1
    cases h2 : below f with
    | true =>
      have hf : okDigits f = false := by
        cases q : okDigits f with
        | false => rfl
        | true => rw [ok_below f q] at h2; cases h2
      rw [hf] at hok
      obtain ⟨rfl, rfl, rfl⟩ := hpb hok
      rw [h2] at HP
      exact parse_e2 s _ _ _ _ _ _ _ w he HC HK HR hE HP
    | false =>
      rw [body_id f h2] at h1
      rw [h2] at HP
      rw [h1, Bool.true_and] at hok
      have hfa := okd_all f h1
      cases hpt : pt with
      | false =>
        subst hpt
        have hb0 : b = [] := (hfn rfl).2
        rw [Bool.not_false, Bool.true_or, Bool.true_and] at hok
        have hba : b.all isDig = true := by rw [hb0]; rfl
        have hb18 : b.length ≤ 18 := by rw [hb0]; decide
        obtain ⟨z, hz⟩ : ∃ z, (f ++ b).dropWhile (· == 48) = z := ⟨_, rfl⟩
        have hzn : num z = num (f ++ b) := by rw [← hz, num_drop0]
        have hzl : z.length ≤ f.length + b.length := by
          have := (List.dropWhile_sublist (p := (· == (48 : UInt8))) (l := f ++ b)).length_le
          rw [hz, List.length_append] at this; exact this
        have HL : Hid (∀ w, Calls Tryz.prog 89 #[.string (⟨f.toArray⟩ ++ ⟨b.toArray⟩), .string ⟨#[48]⟩] w fun e w' => e = .returned (.string ⟨z.toArray⟩) ∧ w' = w) := Lib.hid fun w => by
          rw [cat]
          have := Tryz.strings_TrimLeft_one ⟨(f ++ b).toArray⟩ 48 (by decide) w
          rw [show Lib.trimLeftB (⟨(f ++ b).toArray⟩ : ByteArray).data.toList 48 = z from hz] at this
          exact this
        have hfs : (⟨f.toArray⟩ : ByteArray).size ≤ 140737488355328 := by rw [size_mk]; omega
        have hbs : (⟨b.toArray⟩ : ByteArray).size ≤ 140737488355328 := by rw [size_mk]; omega
        rw [← hzn] at hpN
        by_cases hz0 : z = []
        · subst hz0
          have hN : N = 0 := by rw [hpN]; cases bl <;> rfl
          have hi : inR N = true := by rw [hN]; rfl
          rw [hi] at hok
          obtain ⟨rfl, rfl, rfl⟩ := hpz hok hN
          exact parse_z_np s _ _ _ _ _ _ _ w he HC HK HR hE HP rfl hfs hbs _ HL (by rw [toList_mk]) (by rw [toList_mk]; rfl)
        · have hzo : okDigits z = true := by rw [← hz]; exact ok_drop0 _ (by rw [List.all_append, hfa, hba]; rfl) (by rw [hz]; exact hz0)
          have hz1 : ¬ (⟨z.toArray⟩ : ByteArray).toList = [] := by rw [toList_mk]; exact hz0
          have hz2 : (⟨z.toArray⟩ : ByteArray).toList.isEmpty = false := by rw [toList_mk]; simpa using hz0
          have hzs : (⟨z.toArray⟩ : ByteArray).size ≤ 281474976710656 := by rw [size_mk]; omega
          cases bl with
          | false =>
            simp only [Bool.false_eq_true, if_false] at hpN
            obtain ⟨r1, r2⟩ := rd_pos z hzo
            rw [← hpN] at r1 r2
            have HR2 := Lib.hid (fun w he => read_any ⟨z.toArray⟩ hzs w he)
            rw [show (⟨z.toArray⟩ : ByteArray).data.toList = z from rfl, r1, r2] at HR2
            cases hi : inR N with
            | false =>
              rw [hi] at hok
              obtain ⟨rfl, rfl, rfl⟩ := hpb hok
              exact parse_o_np_false s _ _ _ _ _ _ _ w he HC HK HR hE HP rfl hfs hbs _ HL rfl hz1 hz2 hzs _ _ HR2 (err_ne hi)
            | true =>
              rw [hi] at hok
              have hr := (inR_iff N).1 hi
              obtain ⟨rfl, rfl, rfl⟩ := hpm hok
              rw [val_in hr, err_in hr] at HR2
              exact parse_m_np_false s _ _ _ _ _ _ _ w he HC HK HR hE HP rfl hfs hbs _ HL rfl hz1 hz2 hzs _ _ HR2 rfl hr (by rw [size_mk]; omega) _ _ (Lib.hid (by rw [size_mk]))
          | true =>
            simp only [if_true] at hpN
            obtain ⟨r1, r2⟩ := rd_neg z hzo
            rw [← hpN] at r1 r2
            have HR2 : Hid (∀ w, Env w → Calls Tryz.prog 86 #[.string (⟨#[45]⟩ ++ ⟨z.toArray⟩)] w fun e' w' => e' = .returned (.tuple #[.int .i64 (val N), .int .i64 (err N)]) ∧ Below w.heap.size w w') := Lib.hid fun w he => by
              have := read_any ⟨(45 :: z).toArray⟩ (by rw [size_mk]; simp; omega) w he
              rw [show (⟨(45 :: z).toArray⟩ : ByteArray).data.toList = 45 :: z from rfl, r1, r2] at this
              rw [show (⟨#[45]⟩ ++ ⟨z.toArray⟩ : ByteArray) = ⟨(45 :: z).toArray⟩ from cat [45] z]
              exact this
            cases hi : inR N with
            | false =>
              rw [hi] at hok
              obtain ⟨rfl, rfl, rfl⟩ := hpb hok
              exact parse_o_np_true s _ _ _ _ _ _ _ w he HC HK HR hE HP rfl hfs hbs _ HL rfl hz1 hz2 hzs _ _ HR2 (err_ne hi)
            | true =>
              rw [hi] at hok
              have hr := (inR_iff N).1 hi
              obtain ⟨rfl, rfl, rfl⟩ := hpm hok
              rw [val_in hr, err_in hr] at HR2
              exact parse_m_np_true s _ _ _ _ _ _ _ w he HC HK HR hE HP rfl hfs hbs _ HL rfl hz1 hz2 hzs _ _ HR2 rfl hr (by rw [size_mk]; omega) _ _ (Lib.hid (by rw [size_mk]))
      | true =>
        subst hpt
        rw [Bool.not_true, Bool.false_or] at hok
        by_cases hb0 : b = []
        · subst hb0
          obtain ⟨rfl, rfl, rfl⟩ := hpb hok
          exact parse_e3 s _ _ _ _ _ _ _ w he HC HK HR hE HP rfl (by rw [toList_mk]) (by rw [toList_mk]; rfl)
        · have h3 : ¬ (⟨b.toArray⟩ : ByteArray).toList = [] := by rw [toList_mk]; exact hb0
          have h4 : (⟨b.toArray⟩ : ByteArray).toList.isEmpty = false := by rw [toList_mk]; simpa using hb0
          by_cases hb18 : b.length ≤ 18
          · have h5 : (⟨b.toArray⟩ : ByteArray).size ≤ 18 := by rw [size_mk]; exact hb18
            have HT := Lib.hid (fun w => trim_any ⟨b.toArray⟩ (by rw [size_mk]; omega) w)
            rw [show (⟨b.toArray⟩ : ByteArray).data.toList = b from rfl] at HT
            cases hba : b.all isDig with
            | false =>
              have hbk : okBack b = false := by unfold okBack digitsB; rw [hba]; rfl
              rw [hbk] at hok
              obtain ⟨rfl, rfl, rfl⟩ := hpb hok
              have ht : ¬ Lib.trimS b [48, 49, 50, 51, 52, 53, 54, 55, 56, 57] = [] := fun q => by rw [(trim_digits b).1 q] at hba; cases hba
              exact parse_e5 s _ _ _ _ _ _ _ w he HC HK HR _ hE HP rfl h3 h4 h5 HT (by rw [toList_mk]; exact ht) (by rw [toList_mk]; simpa using ht)
            | true =>
              have hbk : okBack b = true := by
                unfold okBack digitsB; rw [hba]
                have : b.isEmpty = false := by simpa using hb0
                rw [this]; simpa using hb18
              rw [hbk, Bool.true_and] at hok
              have ht : Lib.trimS b [48, 49, 50, 51, 52, 53, 54, 55, 56, 57] = [] := (trim_digits b).2 hba
              have h6 : (⟨(Lib.trimS b [48, 49, 50, 51, 52, 53, 54, 55, 56, 57]).toArray⟩ : ByteArray).toList = [] := by rw [toList_mk, ht]
              have h7 : (⟨(Lib.trimS b [48, 49, 50, 51, 52, 53, 54, 55, 56, 57]).toArray⟩ : ByteArray).toList.isEmpty = true := by rw [toList_mk, ht]; rfl
              obtain ⟨z, hz⟩ : ∃ z, (f ++ b).dropWhile (· == 48) = z := ⟨_, rfl⟩
              have hzn : num z = num (f ++ b) := by rw [← hz, num_drop0]
              have hzl : z.length ≤ f.length + b.length := by
                have := (List.dropWhile_sublist (p := (· == (48 : UInt8))) (l := f ++ b)).length_le
                rw [hz, List.length_append] at this; exact this
              have HL : Hid (∀ w, Calls Tryz.prog 89 #[.string (⟨f.toArray⟩ ++ ⟨b.toArray⟩), .string ⟨#[48]⟩] w fun e w' => e = .returned (.string ⟨z.toArray⟩) ∧ w' = w) := Lib.hid fun w => by
                rw [cat]
                have := Tryz.strings_TrimLeft_one ⟨(f ++ b).toArray⟩ 48 (by decide) w
                rw [show Lib.trimLeftB (⟨(f ++ b).toArray⟩ : ByteArray).data.toList 48 = z from hz] at this
                exact this
              have hfs : (⟨f.toArray⟩ : ByteArray).size ≤ 140737488355328 := by rw [size_mk]; omega
              have hbs : (⟨b.toArray⟩ : ByteArray).size ≤ 140737488355328 := by rw [size_mk]; omega
              rw [← hzn] at hpN
              by_cases hz0 : z = []
              · subst hz0
                have hN : N = 0 := by rw [hpN]; cases bl <;> rfl
                have hi : inR N = true := by rw [hN]; rfl
                rw [hi] at hok
                obtain ⟨rfl, rfl, rfl⟩ := hpz hok hN
                exact parse_z_pt s _ _ _ _ _ _ _ w he HC HK HR hE HP _ rfl h3 h4 h5 HT h6 h7 hfs hbs _ HL (by rw [toList_mk]) (by rw [toList_mk]; rfl)
              · have hzo : okDigits z = true := by rw [← hz]; exact ok_drop0 _ (by rw [List.all_append, hfa, hba]; rfl) (by rw [hz]; exact hz0)
                have hz1 : ¬ (⟨z.toArray⟩ : ByteArray).toList = [] := by rw [toList_mk]; exact hz0
                have hz2 : (⟨z.toArray⟩ : ByteArray).toList.isEmpty = false := by rw [toList_mk]; simpa using hz0
                have hzs : (⟨z.toArray⟩ : ByteArray).size ≤ 281474976710656 := by rw [size_mk]; omega
                cases bl with
                | false =>
                  simp only [Bool.false_eq_true, if_false] at hpN
                  obtain ⟨r1, r2⟩ := rd_pos z hzo
                  rw [← hpN] at r1 r2
                  have HR2 := Lib.hid (fun w he => read_any ⟨z.toArray⟩ hzs w he)
                  rw [show (⟨z.toArray⟩ : ByteArray).data.toList = z from rfl, r1, r2] at HR2
                  cases hi : inR N with
                  | false =>
                    rw [hi] at hok
                    obtain ⟨rfl, rfl, rfl⟩ := hpb hok
                    exact parse_o_pt_false s _ _ _ _ _ _ _ w he HC HK HR hE HP _ rfl h3 h4 h5 HT h6 h7 hfs hbs _ HL rfl hz1 hz2 hzs _ _ HR2 (err_ne hi)
                  | true =>
                    rw [hi] at hok
                    have hr := (inR_iff N).1 hi
                    obtain ⟨rfl, rfl, rfl⟩ := hpm hok
                    rw [val_in hr, err_in hr] at HR2
                    exact parse_m_pt_false s _ _ _ _ _ _ _ w he HC HK HR hE HP _ rfl h3 h4 h5 HT h6 h7 hfs hbs _ HL rfl hz1 hz2 hzs _ _ HR2 rfl hr (by rw [size_mk]; omega) _ _ (Lib.hid (by rw [size_mk]))
                | true =>
                  simp only [if_true] at hpN
                  obtain ⟨r1, r2⟩ := rd_neg z hzo
                  rw [← hpN] at r1 r2
                  have HR2 : Hid (∀ w, Env w → Calls Tryz.prog 86 #[.string (⟨#[45]⟩ ++ ⟨z.toArray⟩)] w fun e' w' => e' = .returned (.tuple #[.int .i64 (val N), .int .i64 (err N)]) ∧ Below w.heap.size w w') := Lib.hid fun w he => by
                    have := read_any ⟨(45 :: z).toArray⟩ (by rw [size_mk]; simp; omega) w he
                    rw [show (⟨(45 :: z).toArray⟩ : ByteArray).data.toList = 45 :: z from rfl, r1, r2] at this
                    rw [show (⟨#[45]⟩ ++ ⟨z.toArray⟩ : ByteArray) = ⟨(45 :: z).toArray⟩ from cat [45] z]
                    exact this
                  cases hi : inR N with
                  | false =>
                    rw [hi] at hok
                    obtain ⟨rfl, rfl, rfl⟩ := hpb hok
                    exact parse_o_pt_true s _ _ _ _ _ _ _ w he HC HK HR hE HP _ rfl h3 h4 h5 HT h6 h7 hfs hbs _ HL rfl hz1 hz2 hzs _ _ HR2 (err_ne hi)
                  | true =>
                    rw [hi] at hok
                    have hr := (inR_iff N).1 hi
                    obtain ⟨rfl, rfl, rfl⟩ := hpm hok
                    rw [val_in hr, err_in hr] at HR2
                    exact parse_m_pt_true s _ _ _ _ _ _ _ w he HC HK HR hE HP _ rfl h3 h4 h5 HT h6 h7 hfs hbs _ HL rfl hz1 hz2 hzs _ _ HR2 rfl hr (by rw [size_mk]; omega) _ _ (Lib.hid (by rw [size_mk]))
          · have hbk : okBack b = false := by unfold okBack; rw [decide_eq_false hb18, Bool.and_false]
            rw [hbk] at hok
            obtain ⟨rfl, rfl, rfl⟩ := hpb hok
            exact parse_e4 s _ _ _ _ _ _ _ w he HC HK HR hE HP rfl h3 h4 (by rw [size_mk]; omega) (by rw [size_mk]; omega)
end Go.Proofs.YtjhgiojmlkeccaaGreatDoor
namespace Go.Proofs.YtjhgiojmlkeccaaGreatDoor
open Go.RowKit
theorem hp0 (p : ByteArray) (b : Bool) (h : Lib.hasPrefix p.data.toList [48] = b) (w : World) :
    Calls Tryz.prog 87 #[.string p, .string ⟨#[48]⟩] w fun e w' => e = .returned (.bool b) ∧ w = w' :=
  (Tryz.strings_HasPrefix p ⟨#[48]⟩ w).mono fun e w' ⟨a, c⟩ => ⟨by rw [a, show (⟨#[48]⟩ : ByteArray).data.toList = [48] from rfl, h], c.symm⟩
theorem mul1_any (k : Nat) (hk : k ≤ 1000) (w : World) :
    Calls Tryz.prog 137 #[.int .u64 1, .int .u64 k] w fun e w' => e = .returned (.tuple #[.int .u64 0, .int .u64 k]) ∧ w = w' := by
  have H : Hid (∀ w, Calls Tryz.prog 139 #[.int .u64 1, .int .u64 k] w fun e w' => e = .returned (.tuple #[.int .u64 0, .int .u64 k]) ∧ w = w') :=
    Lib.hid fun w => (Tryz.bits_Mul64 1 k (by omega) (by omega) w).mono fun e w' ⟨a, b⟩ => ⟨by rw [a]; exact ret_i2 (by omega) (by omega), b.symm⟩
  go_enter Tryz.func137, Tryz.ntmps137
  go_wp2_with fail
  refine (H.out _).mono ?_; rintro e w1 ⟨rfl, rfl⟩
  go_wp2_with fail
  go_ret2
  exact ⟨rfl, rfl⟩
theorem zeros_fin : ∀ i : Fin 65, (⟨#[48, 48, 48, 48, 48, 48, 48, 48, 48, 48, 48, 48, 48, 48, 48, 48, 48, 48, 48, 48, 48, 48, 48, 48, 48, 48, 48, 48, 48, 48, 48, 48, 48, 48, 48, 48, 48, 48, 48, 48, 48, 48, 48, 48, 48, 48, 48, 48, 48, 48, 48, 48, 48, 48, 48, 48, 48, 48, 48, 48, 48, 48, 48, 48]⟩ : ByteArray).extract 0 i.val = ⟨(List.replicate i.val 48).toArray⟩ := by decide +kernel
set_option maxRecDepth 100000 in
set_option maxHeartbeats 2000000 in
theorem repeat0_any (k : Nat) (hk : k ≤ 40) (w : World) :
    Calls Tryz.prog 91 #[.string ⟨#[48]⟩, .int .i64 k] w fun e w' => e = .returned (.string ⟨(List.replicate k 48).toArray⟩) ∧ w = w' := by
  rcases Nat.lt_trichotomy k 1 with h | h | h
  · obtain rfl : k = 0 := by omega
    go_enter Tryz.func91, Tryz.ntmps91
    go_wp2_with fail
    go_ret
    exact ⟨rfl, rfl⟩
  · subst h
    go_enter Tryz.func91, Tryz.ntmps91
    go_wp2_with fail
    go_ret
    exact ⟨rfl, rfl⟩
  · have H := Lib.hid (fun w => mul1_any k (by omega) w)
    have hz : (⟨#[48, 48, 48, 48, 48, 48, 48, 48, 48, 48, 48, 48, 48, 48, 48, 48, 48, 48, 48, 48, 48, 48, 48, 48, 48, 48, 48, 48, 48, 48, 48, 48, 48, 48, 48, 48, 48, 48, 48, 48, 48, 48, 48, 48, 48, 48, 48, 48, 48, 48, 48, 48, 48, 48, 48, 48, 48, 48, 48, 48, 48, 48, 48, 48]⟩ : ByteArray).extract 0 k = ⟨(List.replicate k 48).toArray⟩ := zeros_fin ⟨k, by omega⟩
    have HZ := Lib.hid hz
    clear hz
    generalize (⟨(List.replicate k 48).toArray⟩ : ByteArray) = zB at *
    have h0 : ((k : Int) == 0) = false := by rw [beq_eq_false_iff_ne]; omega
    have h1 : ((k : Int) == 1) = false := by rw [beq_eq_false_iff_ne]; omega
    go_enter Tryz.func91, Tryz.ntmps91
    go_wp2_with fail
    refine (H.out _).mono ?_; rintro e w1 ⟨rfl, rfl⟩
    go_wp2_with fail
    refine (hp0 _ false (by decide +kernel) _).mono ?_; rintro e w1 ⟨rfl, rfl⟩
    go_wp2_with fail
    refine (hp0 _ false (by decide +kernel) _).mono ?_; rintro e w1 ⟨rfl, rfl⟩
    go_wp2_with fail
    refine (hp0 _ true (by decide +kernel) _).mono ?_; rintro e w1 ⟨rfl, rfl⟩
    go_wp2_with fail
    go_ret
    exact ⟨retB HZ.out, rfl⟩
theorem itoa_parts (m : Int) : below (Lib.itoa m) = decide (m < 0) ∧ body (Lib.itoa m) = Lib.decDigits m.natAbs := by
  by_cases h : m < 0
  · rw [decide_eq_true h]
    have e : Lib.itoa m = 45 :: Lib.decDigits m.natAbs := by unfold Lib.itoa; rw [if_pos h]
    rw [e]; exact ⟨rfl, rfl⟩
  · rw [decide_eq_false h]
    have e : Lib.itoa m = Lib.decDigits m.natAbs := by unfold Lib.itoa; rw [if_neg h, show m.toNat = m.natAbs by omega]
    have hb := dec_notdash m.natAbs
    rw [e]; exact ⟨hb, body_id _ hb⟩
theorem dec_le (m : Int) (hr : R m) : (Lib.decDigits m.natAbs).length ≤ 20 := by
  refine dec_len _ 20 (by omega) ?_
  unfold R at hr
  have : m.natAbs ≤ 9223372036854775808 := by omega
  exact Nat.lt_of_le_of_lt this (by decide)
set_option maxRecDepth 100000 in
set_option maxHeartbeats 1000000 in
theorem mtext_bad (m s : Int) (hm : R m) (hs : R s) (h : may m s = false) (w : World) :
    Calls Tryz.prog 56 #[.agg #[.int .i64 m, .int .i64 s]] w fun e w' => e = .returned (.tuple #[.string ⟨#[]⟩, .int .i64 140]) ∧ Below w.heap.size w w' := by
  have H := Lib.hid (fun w => mcheck_any m s hm hs w)
  rw [show chk m s = 140 by unfold chk; rw [h]; rfl] at H
  clear h hm hs
  go_enter Tryz.func56, Tryz.ntmps56
  go_wp2_with fail
  refine (H.out _).mono ?_; rintro e w1 ⟨rfl, hb1⟩
  go_wp2_with fail
  go_ret2
  refine ⟨rfl, ?_⟩
  refine Below.trans ?_ (hb1.mono (by simp))
  go_grown
theorem ret_t {a b : ByteArray} {n : Int} (h : a = b) : Ending.returned (.tuple #[.string a, .int .i64 n]) = .returned (.tuple #[.string b, .int .i64 n]) := by rw [h]
set_option maxRecDepth 100000 in
set_option maxHeartbeats 1000000 in
theorem mtext_0p (m s : Int) (iB dB zB : ByteArray) (w : World)
    (H : Hid (∀ w, Calls Tryz.prog 90 #[.agg #[.int .i64 m, .int .i64 s]] w fun e w' => e = .returned (.int .i64 0) ∧ Below w.heap.size w w'))
    (HW : Hid (∀ w, EnvT w → Calls Tryz.prog 49 #[.int .i64 m] w fun e w' => e = .returned (.string iB) ∧ Below w.heap.size w w'))
    (HC : Hid (∀ w, Calls Tryz.prog 84 #[.string iB, .string ⟨#[45]⟩] w fun e w' => e = .returned (.tuple #[.string dB, .bool false]) ∧ w = w'))
    (HZ : Hid (∀ w, Calls Tryz.prog 91 #[.string ⟨#[48]⟩, .int .i64 0] w fun e w' => e = .returned (.string zB) ∧ w = w'))
    (he : EnvT w) (hd : dB.size ≤ 20) (hz : zB.size = 0) (hp : s + 1 - dB.size ≤ 0) (s0 : s = 0) (tB : ByteArray) (HT : Hid ((zB ++ dB) = tB)) :
    Calls Tryz.prog 56 #[.agg #[.int .i64 m, .int .i64 s]] w fun e w' => e = .returned (.tuple #[.string tB, .int .i64 0]) ∧ Below w.heap.size w w' := by
  subst s0
  have hzk : (zB.size : Int) ≤ 18 := by omega
  have HZ0 := Lib.hid hz
  clear hz
  have hmx : max (0 : Int) (1 - dB.size) = 0 := by omega
  go_enter Tryz.func56, Tryz.ntmps56
  go_wp2_with fail
  refine (H.out _).mono ?_; rintro e w1 ⟨rfl, hb1⟩
  obtain ⟨c0, c1, f0, f1, hz1, hbw⟩ := own2 hb1
  go_wp2_with fail
  refine ((HW.out _ (he.stays hbw)).mono ?_); rintro e w2 ⟨rfl, hb2⟩
  have hk2 := keep1 hb2 ⟨c0, c1, f0, f1, hz1, hbw⟩
  clear c0 c1 f0 f1 hz1 hbw hb1 hb2
  obtain ⟨c0, c1, f0, f1, hz1, hbw⟩ := hk2
  go_wp2_with fail
  refine (HC.out _).mono ?_; rintro e w3 ⟨rfl, rfl⟩
  go_wp2_with fail
  refine (HZ.out _).mono ?_; rintro e w3 ⟨rfl, rfl⟩
  go_wp2_with fail
  go_ret2
  refine ⟨ret_t ?_, ?_⟩
  · exact HT.out
  · exact hbw
set_option maxRecDepth 100000 in
set_option maxHeartbeats 1000000 in
theorem mtext_1p (m s : Int) (iB dB zB : ByteArray) (k : Nat) (w : World)
    (H : Hid (∀ w, Calls Tryz.prog 90 #[.agg #[.int .i64 m, .int .i64 s]] w fun e w' => e = .returned (.int .i64 0) ∧ Below w.heap.size w w'))
    (HW : Hid (∀ w, EnvT w → Calls Tryz.prog 49 #[.int .i64 m] w fun e w' => e = .returned (.string iB) ∧ Below w.heap.size w w'))
    (HC : Hid (∀ w, Calls Tryz.prog 84 #[.string iB, .string ⟨#[45]⟩] w fun e w' => e = .returned (.tuple #[.string dB, .bool false]) ∧ w = w'))
    (HZ : Hid (∀ w, Calls Tryz.prog 91 #[.string ⟨#[48]⟩, .int .i64 k] w fun e w' => e = .returned (.string zB) ∧ w = w'))
    (he : EnvT w) (hd : dB.size ≤ 20) (hz : zB.size ≤ 18) (hk : k ≤ 18) (hp : s + 1 - dB.size = k) (s0 : 0 < s) (s1 : s ≤ 18) (n : Nat) (hn : (zB.size : Int) + dB.size - s = n) (hn2 : n ≤ zB.size + dB.size) (tB : ByteArray) (HT : Hid ((zB ++ dB).extract 0 n ++ ⟨#[46]⟩ ++ (zB ++ dB).extract n (zB.size + dB.size) = tB)) :
    Calls Tryz.prog 56 #[.agg #[.int .i64 m, .int .i64 s]] w fun e w' => e = .returned (.tuple #[.string tB, .int .i64 0]) ∧ Below w.heap.size w w' := by
  have hzk : (zB.size : Int) ≤ 18 := by omega
  have n1 : (n : Int) ≤ (zB.size : Int) + dB.size := by omega
  have n2 : (n : Int) ≤ 40 := by omega
  go_enter Tryz.func56, Tryz.ntmps56
  go_wp2_with fail
  refine (H.out _).mono ?_; rintro e w1 ⟨rfl, hb1⟩
  obtain ⟨c0, c1, f0, f1, hz1, hbw⟩ := own2 hb1
  go_wp2_with fail
  refine ((HW.out _ (he.stays hbw)).mono ?_); rintro e w2 ⟨rfl, hb2⟩
  have hk2 := keep1 hb2 ⟨c0, c1, f0, f1, hz1, hbw⟩
  clear c0 c1 f0 f1 hz1 hbw hb1 hb2
  obtain ⟨c0, c1, f0, f1, hz1, hbw⟩ := hk2
  go_wp2_with fail
  refine (HC.out _).mono ?_; rintro e w3 ⟨rfl, rfl⟩
  go_wp2_with fail
  refine (HZ.out _).mono ?_; rintro e w3 ⟨rfl, rfl⟩
  go_wp2_with fail
  go_quiet (fail)
  go_wp2_with fail
  go_ret2
  refine ⟨ret_t ?_, ?_⟩
  · exact HT.out
  · exact below_drawN _ hbw
set_option maxRecDepth 100000 in
set_option maxHeartbeats 1000000 in
theorem mtext_2p (m s : Int) (iB dB zB : ByteArray) (w : World)
    (H : Hid (∀ w, Calls Tryz.prog 90 #[.agg #[.int .i64 m, .int .i64 s]] w fun e w' => e = .returned (.int .i64 0) ∧ Below w.heap.size w w'))
    (HW : Hid (∀ w, EnvT w → Calls Tryz.prog 49 #[.int .i64 m] w fun e w' => e = .returned (.string iB) ∧ Below w.heap.size w w'))
    (HC : Hid (∀ w, Calls Tryz.prog 84 #[.string iB, .string ⟨#[45]⟩] w fun e w' => e = .returned (.tuple #[.string dB, .bool false]) ∧ w = w'))
    (HZ : Hid (∀ w, Calls Tryz.prog 91 #[.string ⟨#[48]⟩, .int .i64 0] w fun e w' => e = .returned (.string zB) ∧ w = w'))
    (he : EnvT w) (hd : dB.size ≤ 20) (hz : zB.size = 0) (hp : s + 1 - dB.size ≤ 0) (s0 : 0 < s) (s1 : s ≤ 18) (n : Nat) (hn : (zB.size : Int) + dB.size - s = n) (hn2 : n ≤ zB.size + dB.size) (tB : ByteArray) (HT : Hid ((zB ++ dB).extract 0 n ++ ⟨#[46]⟩ ++ (zB ++ dB).extract n (zB.size + dB.size) = tB)) :
    Calls Tryz.prog 56 #[.agg #[.int .i64 m, .int .i64 s]] w fun e w' => e = .returned (.tuple #[.string tB, .int .i64 0]) ∧ Below w.heap.size w w' := by
  have hzk : (zB.size : Int) ≤ 18 := by omega
  have HZ0 := Lib.hid hz
  clear hz
  have hmx : max (0 : Int) (s + 1 - dB.size) = 0 := by omega
  have n1 : (n : Int) ≤ (zB.size : Int) + dB.size := by omega
  have n2 : (n : Int) ≤ 40 := by omega
  go_enter Tryz.func56, Tryz.ntmps56
  go_wp2_with fail
  refine (H.out _).mono ?_; rintro e w1 ⟨rfl, hb1⟩
  obtain ⟨c0, c1, f0, f1, hz1, hbw⟩ := own2 hb1
  go_wp2_with fail
  refine ((HW.out _ (he.stays hbw)).mono ?_); rintro e w2 ⟨rfl, hb2⟩
  have hk2 := keep1 hb2 ⟨c0, c1, f0, f1, hz1, hbw⟩
  clear c0 c1 f0 f1 hz1 hbw hb1 hb2
  obtain ⟨c0, c1, f0, f1, hz1, hbw⟩ := hk2
  go_wp2_with fail
  refine (HC.out _).mono ?_; rintro e w3 ⟨rfl, rfl⟩
  go_wp2_with fail
  refine (HZ.out _).mono ?_; rintro e w3 ⟨rfl, rfl⟩
  go_wp2_with fail
  go_quiet (fail)
  go_wp2_with fail
  go_ret2
  refine ⟨ret_t ?_, ?_⟩
  · exact HT.out
  · exact below_drawN _ hbw
set_option maxRecDepth 100000 in
set_option maxHeartbeats 1000000 in
theorem mtext_0n (m s : Int) (iB dB zB : ByteArray) (w : World)
    (H : Hid (∀ w, Calls Tryz.prog 90 #[.agg #[.int .i64 m, .int .i64 s]] w fun e w' => e = .returned (.int .i64 0) ∧ Below w.heap.size w w'))
    (HW : Hid (∀ w, EnvT w → Calls Tryz.prog 49 #[.int .i64 m] w fun e w' => e = .returned (.string iB) ∧ Below w.heap.size w w'))
    (HC : Hid (∀ w, Calls Tryz.prog 84 #[.string iB, .string ⟨#[45]⟩] w fun e w' => e = .returned (.tuple #[.string dB, .bool true]) ∧ w = w'))
    (HZ : Hid (∀ w, Calls Tryz.prog 91 #[.string ⟨#[48]⟩, .int .i64 0] w fun e w' => e = .returned (.string zB) ∧ w = w'))
    (he : EnvT w) (hd : dB.size ≤ 20) (hz : zB.size = 0) (hp : s + 1 - dB.size ≤ 0) (s0 : s = 0) (tB : ByteArray) (HT : Hid (⟨#[45]⟩ ++ (zB ++ dB) = tB)) :
    Calls Tryz.prog 56 #[.agg #[.int .i64 m, .int .i64 s]] w fun e w' => e = .returned (.tuple #[.string tB, .int .i64 0]) ∧ Below w.heap.size w w' := by
  subst s0
  have hzk : (zB.size : Int) ≤ 18 := by omega
  have HZ0 := Lib.hid hz
  clear hz
  have hmx : max (0 : Int) (1 - dB.size) = 0 := by omega
  go_enter Tryz.func56, Tryz.ntmps56
  go_wp2_with fail
  refine (H.out _).mono ?_; rintro e w1 ⟨rfl, hb1⟩
  obtain ⟨c0, c1, f0, f1, hz1, hbw⟩ := own2 hb1
  go_wp2_with fail
  refine ((HW.out _ (he.stays hbw)).mono ?_); rintro e w2 ⟨rfl, hb2⟩
  have hk2 := keep1 hb2 ⟨c0, c1, f0, f1, hz1, hbw⟩
  clear c0 c1 f0 f1 hz1 hbw hb1 hb2
  obtain ⟨c0, c1, f0, f1, hz1, hbw⟩ := hk2
  go_wp2_with fail
  refine (HC.out _).mono ?_; rintro e w3 ⟨rfl, rfl⟩
  go_wp2_with fail
  refine (HZ.out _).mono ?_; rintro e w3 ⟨rfl, rfl⟩
  go_wp2_with fail
  go_ret2
  refine ⟨ret_t ?_, ?_⟩
  · exact HT.out
  · exact hbw
set_option maxRecDepth 100000 in
set_option maxHeartbeats 1000000 in
theorem mtext_1n (m s : Int) (iB dB zB : ByteArray) (k : Nat) (w : World)
    (H : Hid (∀ w, Calls Tryz.prog 90 #[.agg #[.int .i64 m, .int .i64 s]] w fun e w' => e = .returned (.int .i64 0) ∧ Below w.heap.size w w'))
    (HW : Hid (∀ w, EnvT w → Calls Tryz.prog 49 #[.int .i64 m] w fun e w' => e = .returned (.string iB) ∧ Below w.heap.size w w'))
    (HC : Hid (∀ w, Calls Tryz.prog 84 #[.string iB, .string ⟨#[45]⟩] w fun e w' => e = .returned (.tuple #[.string dB, .bool true]) ∧ w = w'))
    (HZ : Hid (∀ w, Calls Tryz.prog 91 #[.string ⟨#[48]⟩, .int .i64 k] w fun e w' => e = .returned (.string zB) ∧ w = w'))
    (he : EnvT w) (hd : dB.size ≤ 20) (hz : zB.size ≤ 18) (hk : k ≤ 18) (hp : s + 1 - dB.size = k) (s0 : 0 < s) (s1 : s ≤ 18) (n : Nat) (hn : (zB.size : Int) + dB.size - s = n) (hn2 : n ≤ zB.size + dB.size) (tB : ByteArray) (HT : Hid (⟨#[45]⟩ ++ ((zB ++ dB).extract 0 n ++ ⟨#[46]⟩ ++ (zB ++ dB).extract n (zB.size + dB.size)) = tB)) :
    Calls Tryz.prog 56 #[.agg #[.int .i64 m, .int .i64 s]] w fun e w' => e = .returned (.tuple #[.string tB, .int .i64 0]) ∧ Below w.heap.size w w' := by
  have hzk : (zB.size : Int) ≤ 18 := by omega
  have n1 : (n : Int) ≤ (zB.size : Int) + dB.size := by omega
  have n2 : (n : Int) ≤ 40 := by omega
  go_enter Tryz.func56, Tryz.ntmps56
  go_wp2_with fail
  refine (H.out _).mono ?_; rintro e w1 ⟨rfl, hb1⟩
  obtain ⟨c0, c1, f0, f1, hz1, hbw⟩ := own2 hb1
  go_wp2_with fail
  refine ((HW.out _ (he.stays hbw)).mono ?_); rintro e w2 ⟨rfl, hb2⟩
  have hk2 := keep1 hb2 ⟨c0, c1, f0, f1, hz1, hbw⟩
  clear c0 c1 f0 f1 hz1 hbw hb1 hb2
  obtain ⟨c0, c1, f0, f1, hz1, hbw⟩ := hk2
  go_wp2_with fail
  refine (HC.out _).mono ?_; rintro e w3 ⟨rfl, rfl⟩
  go_wp2_with fail
  refine (HZ.out _).mono ?_; rintro e w3 ⟨rfl, rfl⟩
  go_wp2_with fail
  go_quiet (fail)
  go_wp2_with fail
  go_ret2
  refine ⟨ret_t ?_, ?_⟩
  · exact HT.out
  · exact below_drawN _ hbw
set_option maxRecDepth 100000 in
set_option maxHeartbeats 1000000 in
theorem mtext_2n (m s : Int) (iB dB zB : ByteArray) (w : World)
    (H : Hid (∀ w, Calls Tryz.prog 90 #[.agg #[.int .i64 m, .int .i64 s]] w fun e w' => e = .returned (.int .i64 0) ∧ Below w.heap.size w w'))
    (HW : Hid (∀ w, EnvT w → Calls Tryz.prog 49 #[.int .i64 m] w fun e w' => e = .returned (.string iB) ∧ Below w.heap.size w w'))
    (HC : Hid (∀ w, Calls Tryz.prog 84 #[.string iB, .string ⟨#[45]⟩] w fun e w' => e = .returned (.tuple #[.string dB, .bool true]) ∧ w = w'))
    (HZ : Hid (∀ w, Calls Tryz.prog 91 #[.string ⟨#[48]⟩, .int .i64 0] w fun e w' => e = .returned (.string zB) ∧ w = w'))
    (he : EnvT w) (hd : dB.size ≤ 20) (hz : zB.size = 0) (hp : s + 1 - dB.size ≤ 0) (s0 : 0 < s) (s1 : s ≤ 18) (n : Nat) (hn : (zB.size : Int) + dB.size - s = n) (hn2 : n ≤ zB.size + dB.size) (tB : ByteArray) (HT : Hid (⟨#[45]⟩ ++ ((zB ++ dB).extract 0 n ++ ⟨#[46]⟩ ++ (zB ++ dB).extract n (zB.size + dB.size)) = tB)) :
    Calls Tryz.prog 56 #[.agg #[.int .i64 m, .int .i64 s]] w fun e w' => e = .returned (.tuple #[.string tB, .int .i64 0]) ∧ Below w.heap.size w w' := by
  have hzk : (zB.size : Int) ≤ 18 := by omega
  have HZ0 := Lib.hid hz
  clear hz
  have hmx : max (0 : Int) (s + 1 - dB.size) = 0 := by omega
  have n1 : (n : Int) ≤ (zB.size : Int) + dB.size := by omega
  have n2 : (n : Int) ≤ 40 := by omega
  go_enter Tryz.func56, Tryz.ntmps56
  go_wp2_with fail
  refine (H.out _).mono ?_; rintro e w1 ⟨rfl, hb1⟩
  obtain ⟨c0, c1, f0, f1, hz1, hbw⟩ := own2 hb1
  go_wp2_with fail
  refine ((HW.out _ (he.stays hbw)).mono ?_); rintro e w2 ⟨rfl, hb2⟩
  have hk2 := keep1 hb2 ⟨c0, c1, f0, f1, hz1, hbw⟩
  clear c0 c1 f0 f1 hz1 hbw hb1 hb2
  obtain ⟨c0, c1, f0, f1, hz1, hbw⟩ := hk2
  go_wp2_with fail
  refine (HC.out _).mono ?_; rintro e w3 ⟨rfl, rfl⟩
  go_wp2_with fail
  refine (HZ.out _).mono ?_; rintro e w3 ⟨rfl, rfl⟩
  go_wp2_with fail
  go_quiet (fail)
  go_wp2_with fail
  go_ret2
  refine ⟨ret_t ?_, ?_⟩
  · exact HT.out
  · exact below_drawN _ hbw
end Go.Proofs.YtjhgiojmlkeccaaGreatDoor
namespace Go.Proofs.YtjhgiojmlkeccaaGreatDoor
open Go.RowKit
def tx (m s : Int) : List UInt8 := if may m s then txt m s.toNat else []
theorem ext_mk (l : List UInt8) (a b : Nat) : (⟨l.toArray⟩ : ByteArray).extract a b = ⟨((l.drop a).take (b - a)).toArray⟩ :=
  bytes_ext (Lib.extract_data _ _ _)
theorem cat3 (a b c : List UInt8) : (⟨a.toArray⟩ ++ ⟨b.toArray⟩ ++ ⟨c.toArray⟩ : ByteArray) = ⟨(a ++ b ++ c).toArray⟩ := by rw [cat, cat]
theorem mtext_any (m s : Int) (hm : R m) (hs : R s) (w : World) (he : EnvT w) :
    Calls Tryz.prog 56 #[.agg #[.int .i64 m, .int .i64 s]] w fun e w' => e = .returned (.tuple #[.string ⟨(tx m s).toArray⟩, .int .i64 (chk m s)]) ∧ Below w.heap.size w w' := by
  cases h : may m s with
  | false =>
    have e1 : tx m s = [] := by unfold tx; rw [h]; rfl
    have e2 : chk m s = 140 := by unfold chk; rw [h]; rfl
    rw [e1, e2]
    exact mtext_bad m s hm hs h w
  | true =>
    have e1 : tx m s = txt m s.toNat := by unfold tx; rw [h]; rfl
    have e2 : chk m s = 0 := by unfold chk; rw [h]; rfl
    have H := Lib.hid (fun w => mcheck_any m s hm hs w)
    rw [e2] at H
    rw [e1, e2]
    obtain ⟨s0, s1⟩ := may_bd h
    obtain ⟨j, rfl⟩ := Int.eq_ofNat_of_zero_le s0
    rw [Int.toNat_natCast]
    have HW := Lib.hid (fun w he => write_tab m hm w he)
    obtain ⟨p1, p2⟩ := itoa_parts m
    have hL := dec_le m hm
    have hL1 := dec_pos m.natAbs
    have HC := Lib.hid (fun w => cut_dash ⟨(Lib.itoa m).toArray⟩ ⟨(Lib.decDigits m.natAbs).toArray⟩ _ p2.symm p1 w)
    have hpad : pad m j = List.replicate (j + 1 - (Lib.decDigits m.natAbs).length) 48 ++ Lib.decDigits m.natAbs := rfl
    have htxt : txt m j = (if m < 0 then [45] else []) ++ (if j = 0 then pad m j else (pad m j).take ((pad m j).length - j) ++ 46 :: (pad m j).drop ((pad m j).length - j)) := rfl
    have hpl := pad_len m j
    generalize Lib.decDigits m.natAbs = d at *
    generalize pad m j = pd at *
    have hds : (⟨d.toArray⟩ : ByteArray).size = d.length := size_mk d
    by_cases hv : j + 1 ≤ d.length
    · -- no noughts ahead
      have HZ := Lib.hid (fun w => repeat0_any 0 (by omega) w)
      have hz0 : (⟨(List.replicate 0 (48 : UInt8)).toArray⟩ : ByteArray).size = 0 := rfl
      have hpd : pd = d := by rw [hpad, show j + 1 - d.length = 0 by omega]; rfl
      have hc : (⟨(List.replicate 0 (48 : UInt8)).toArray⟩ ++ ⟨d.toArray⟩ : ByteArray) = ⟨d.toArray⟩ := by rw [cat]; rfl
      by_cases hj : j = 0
      · subst hj
        rw [if_pos rfl, hpd] at htxt
        by_cases hn : m < 0
        · rw [decide_eq_true hn] at HC
          rw [if_pos hn] at htxt
          exact mtext_0n m _ _ _ _ w H HW HC HZ he (by omega) hz0 (by omega) rfl _ (Lib.hid (by rw [hc, htxt]; exact cat [45] d))
        · rw [decide_eq_false hn] at HC
          rw [if_neg hn] at htxt
          exact mtext_0p m _ _ _ _ w H HW HC HZ he (by omega) hz0 (by omega) rfl _ (Lib.hid (by rw [hc, htxt]; rfl))
      · rw [if_neg hj, hpd] at htxt
        by_cases hn : m < 0
        · rw [decide_eq_true hn] at HC
          rw [if_pos hn] at htxt
          refine mtext_2n m _ _ _ _ w H HW HC HZ he (by omega) hz0 (by omega) (by omega) s1 (d.length - j) (by rw [hz0, hds]; omega) (by rw [hz0, hds]; omega) _ (Lib.hid ?_)
          rw [hc, hz0, hds, ext_mk, ext_mk, htxt, show (⟨#[46]⟩ : ByteArray) = ⟨[46].toArray⟩ from rfl, cat3, show (⟨#[45]⟩ : ByteArray) = ⟨[45].toArray⟩ from rfl, cat]
          congr 2
          rw [List.drop_zero, Nat.sub_zero, List.take_of_length_le (l := List.drop (d.length - j) d) (by rw [List.length_drop]; omega)]
          simp
        · rw [decide_eq_false hn] at HC
          rw [if_neg hn] at htxt
          refine mtext_2p m _ _ _ _ w H HW HC HZ he (by omega) hz0 (by omega) (by omega) s1 (d.length - j) (by rw [hz0, hds]; omega) (by rw [hz0, hds]; omega) _ (Lib.hid ?_)
          rw [hc, hz0, hds, ext_mk, ext_mk, htxt, show (⟨#[46]⟩ : ByteArray) = ⟨[46].toArray⟩ from rfl, cat3]
          congr 2
          rw [List.drop_zero, Nat.sub_zero, List.take_of_length_le (l := List.drop (d.length - j) d) (by rw [List.length_drop]; omega)]
          simp
    · have hj : ¬ j = 0 := by omega
      have HZ := Lib.hid (fun w => repeat0_any (j + 1 - d.length) (by omega) w)
      have hzs : (⟨(List.replicate (j + 1 - d.length) (48 : UInt8)).toArray⟩ : ByteArray).size = j + 1 - d.length := by rw [size_mk, List.length_replicate]
      have hc : (⟨(List.replicate (j + 1 - d.length) (48 : UInt8)).toArray⟩ ++ ⟨d.toArray⟩ : ByteArray) = ⟨pd.toArray⟩ := by rw [cat, hpad]
      have hpl' : pd.length = j + 1 := by rw [hpl, if_pos (by omega)]
      rw [if_neg hj, hpl', show j + 1 - j = 1 by omega] at htxt
      by_cases hn : m < 0
      · rw [decide_eq_true hn] at HC
        rw [if_pos hn] at htxt
        refine mtext_1n m _ _ _ _ (j + 1 - d.length) w H HW HC HZ he (by omega) (by omega) (by omega) (by omega) (by omega) s1 1 (by rw [hzs, hds]; omega) (by rw [hzs, hds]; omega) _ (Lib.hid ?_)
        rw [hc, hzs, hds, ext_mk, ext_mk, htxt, show (⟨#[46]⟩ : ByteArray) = ⟨[46].toArray⟩ from rfl, cat3, show (⟨#[45]⟩ : ByteArray) = ⟨[45].toArray⟩ from rfl, cat]
        congr 2
        rw [List.drop_zero, List.take_of_length_le (l := List.drop 1 pd) (by rw [List.length_drop]; omega)]
        simp
      · rw [decide_eq_false hn] at HC
        rw [if_neg hn] at htxt
        refine mtext_1p m _ _ _ _ (j + 1 - d.length) w H HW HC HZ he (by omega) (by omega) (by omega) (by omega) (by omega) s1 1 (by rw [hzs, hds]; omega) (by rw [hzs, hds]; omega) _ (Lib.hid ?_)
        rw [hc, hzs, hds, ext_mk, ext_mk, htxt, show (⟨#[46]⟩ : ByteArray) = ⟨[46].toArray⟩ from rfl, cat3]
        congr 2
        rw [List.drop_zero, List.take_of_length_le (l := List.drop 1 pd) (by rw [List.length_drop]; omega)]
        simp
end Go.Proofs.YtjhgiojmlkeccaaGreatDoor
namespace Go.Proofs.YtjhgiojmlkeccaaGreatDoor
open Go.RowKit Go.Shelf
theorem ent_number : ∀ args w, (callFunc 24 args).run Tryz.prog w = .ok (.enter 24 args) w := enters_of Tryz.func24 (by kernel_rfl) rfl
theorem ent_told : ∀ args w, (callFunc 46 args).run Tryz.prog w = .ok (.enter 46 args) w := enters_of Tryz.func46 (by kernel_rfl) rfl
theorem ent_digs : ∀ args w, (callFunc 48 args).run Tryz.prog w = .ok (.enter 48 args) w := enters_of Tryz.func48 (by kernel_rfl) rfl
theorem ent_some : ∀ args w, (callFunc 32 args).run Tryz.prog w = .ok (.enter 32 args) w := enters_of Tryz.func32 (by kernel_rfl) rfl
theorem ent_dec : ∀ args w, (callFunc 36 args).run Tryz.prog w = .ok (.enter 36 args) w := enters_of Tryz.func36 (by kernel_rfl) rfl
theorem ent_same : ∀ args w, (callFunc 29 args).run Tryz.prog w = .ok (.enter 29 args) w := enters_of Tryz.func29 (by kernel_rfl) rfl
theorem ent_bool : ∀ args w, (callFunc 30 args).run Tryz.prog w = .ok (.enter 30 args) w := enters_of Tryz.func30 (by kernel_rfl) rfl
/-- What the library's variables hold, for the scalars. -/
structure EnvS (w : World) : Prop where
  u : EnvU w
  r : Env w
theorem EnvS.below {w w' : World} (h : EnvS w) (hb : Below w.heap.size w w') : EnvS w' := ⟨h.u.below hb, h.r.stays hb⟩
def sameC : ByteArray → ByteArray × Int := fun s => (s, 0)
def someC : ByteArray → ByteArray × Int := fun s => if s.toList = [] then (⟨#[]⟩, 160) else (s, 0)
def decC : ByteArray → ByteArray × Int := fun s => if pE s.data.toList = 0 then (⟨(tx (pM s.data.toList) (pS s.data.toList)).toArray⟩, chk (pM s.data.toList) (pS s.data.toList)) else (⟨#[]⟩, pE s.data.toList)
theorem pM_Rs (l : List UInt8) : R (pM l) ∧ R (pS l) := by
  cases h : parseOk l with
  | false =>
    obtain ⟨e1, e2, _⟩ := p_bad l h
    rw [e1, e2]; unfold R; omega
  | true =>
    obtain ⟨h1, h2, _⟩ := parse_may l h
    have := may_bd h1
    exact ⟨h2, by unfold R; omega⟩
theorem same_c (w : World) : CanC w 29 #[] sameC := fun s _ W _ => by rw [app_nil]; exact same_any s W
theorem some_c (w : World) : CanC w 32 #[] someC := fun s _ W _ => by
  rw [app_nil]; unfold someC
  by_cases h : s.toList = []
  · rw [if_pos h]
    obtain rfl : s = ⟨#[]⟩ := by
      rw [ByteArray.toList_eq] at h
      have : s.data = #[] := Array.toList_inj.1 (by rw [h])
      cases s; simp_all
    exact some_no W
  · rw [if_neg h]
    exact some_yes s (by simpa using h) h W
theorem mparse_d (s : ByteArray) (hs : s.size ≤ 1000000) (w : World) (he : Env w) : DoesU w 55 #[.string s] (.tuple #[.agg #[.int .i64 (pM s.data.toList), .int .i64 (pS s.data.toList)], .int .i64 (pE s.data.toList)]) := fun W hW => mparse_any s hs W (he.stays hW)
theorem mtext_d (m s : Int) (hm : R m) (hs : R s) (w : World) (he : Env w) : DoesU w 56 #[.agg #[.int .i64 m, .int .i64 s]] (.tuple #[.string ⟨(tx m s).toArray⟩, .int .i64 (chk m s)]) := fun W hW => mtext_any m s hm hs W (he.stays hW).tab
theorem dec_c (w : World) (he : Env w) : CanC w 36 #[] decC := fun s hs W hW => by
  rw [app_nil]; unfold decC
  have hP := mparse_d s (by omega) W (he.stays hW)
  have hT := mtext_d _ _ (pM_Rs s.data.toList).1 (pM_Rs s.data.toList).2 W (he.stays hW)
  by_cases h : pE s.data.toList = 0
  · rw [if_pos h]
    rw [h] at hP
    exact decimal_go s _ _ _ _ W (Lib.hid hP) (Lib.hid hT)
  · rw [if_neg h]
    exact decimal_no s _ _ _ (by simpa using h) W (Lib.hid hP)
theorem kind_1 (w : World) (hE : EnvS w) :
    Calls Tryz.prog 15 #[.int .u8 1] w fun e w' => (∃ cap : Array Value, e = .returned (.tuple #[.agg #[.func (.func 24) #[] cap, (.func (.func 25) #[] #[]), (.func (.func 27) #[] #[]), .bool false], .int .i64 0]) ∧ PlC w' 24 cap (.func (.func 25) #[] #[]) (.func (.func 27) #[] #[]) false numR) ∧ Below w.heap.size w w' := by
  refine (of_1 w).mono ?_
  rintro e w1 ⟨rfl, hb⟩
  exact ⟨⟨_, rfl, plain_c _ _ _ _ _ _ w1 ent_number (number_c w1)⟩, hb⟩
theorem kind_2 (w : World) (hE : EnvS w) :
    Calls Tryz.prog 15 #[.int .u8 2] w fun e w' => (∃ cap : Array Value, e = .returned (.tuple #[.agg #[.func (.func 46) #[] cap, (.func (.func 22) #[] #[]), .nilFunc, .bool true], .int .i64 0]) ∧ PlC w' 46 cap (.func (.func 22) #[] #[]) .nilFunc true (toldR sameC)) ∧ Below w.heap.size w w' := by
  refine (of_2 w).mono ?_
  rintro e w1 ⟨⟨p2, rfl, h1⟩, hb⟩
  exact ⟨⟨_, rfl, plain_c _ _ _ _ _ _ w1 ent_told (told_c p2 _ #[] sameC w1 h1 ent_same (hE.u.below hb) (same_c w1))⟩, hb⟩
theorem kind_3 (w : World) (hE : EnvS w) :
    Calls Tryz.prog 15 #[.int .u8 3] w fun e w' => (∃ cap : Array Value, e = .returned (.tuple #[.agg #[.func (.func 30) #[] cap, .nilFunc, .nilFunc, .bool false], .int .i64 0]) ∧ PlC w' 30 cap .nilFunc .nilFunc false boolR) ∧ Below w.heap.size w w' := by
  refine (of_3 w).mono ?_
  rintro e w1 ⟨rfl, hb⟩
  exact ⟨⟨_, rfl, plain_c _ _ _ _ _ _ w1 ent_bool (bool_c w1)⟩, hb⟩
theorem kind_4 (w : World) (hE : EnvS w) :
    Calls Tryz.prog 15 #[.int .u8 4] w fun e w' => (∃ cap : Array Value, e = .returned (.tuple #[.agg #[.func (.func 48) #[] cap, (.func (.func 22) #[] #[]), .nilFunc, .bool true], .int .i64 0]) ∧ PlC w' 48 cap (.func (.func 22) #[] #[]) .nilFunc true (digsR (toldR someC))) ∧ Below w.heap.size w w' := by
  refine (of_4 w).mono ?_
  rintro e w1 ⟨⟨q4, p4, rfl, h1, h2⟩, hb⟩
  exact ⟨⟨_, rfl, plain_c _ _ _ _ _ _ w1 ent_digs (digs_c q4 _ _ _ w1 h1 ent_told (hE.r.stays hb).tab (told_c p4 _ #[] someC w1 h2 ent_some (hE.u.below hb) (some_c w1)))⟩, hb⟩
theorem kind_7 (w : World) (hE : EnvS w) :
    Calls Tryz.prog 15 #[.int .u8 7] w fun e w' => (∃ cap : Array Value, e = .returned (.tuple #[.agg #[.func (.func 48) #[] cap, (.func (.func 37) #[] #[]), (.func (.func 38) #[] #[]), .bool false], .int .i64 0]) ∧ PlC w' 48 cap (.func (.func 37) #[] #[]) (.func (.func 38) #[] #[]) false (digsR (toldR decC))) ∧ Below w.heap.size w w' := by
  refine (of_7 w).mono ?_
  rintro e w1 ⟨⟨q7, p7, rfl, h1, h2⟩, hb⟩
  exact ⟨⟨_, rfl, plain_c _ _ _ _ _ _ w1 ent_digs (digs_c q7 _ _ _ w1 h1 ent_told (hE.r.stays hb).tab (told_c p7 _ #[] decC w1 h2 ent_dec (hE.u.below hb) (dec_c w1 (hE.r.stays hb))))⟩, hb⟩
end Go.Proofs.YtjhgiojmlkeccaaGreatDoor
namespace Go.Proofs.YtjhgiojmlkeccaaGreatDoor
open Go.RowKit Go.Shelf
theorem empty_toList : (⟨#[]⟩ : ByteArray).toList = [] := by rw [ByteArray.toList_eq]
theorem plainR_go (rd : RdV) (ck : Int) (tx : ByteArray) (n : Int) (h : if ck = 3 then n = 0 else tx.toList = []) : plainR rd ck tx n 0 = rd ck tx n := if_pos ⟨rfl, h⟩
/-- What 'of' gives. -/
def KindC (w : World) (k : Int) (g : Nat) (c a : Value) (l : Bool) (rd : RdV) : Prop := ∀ W, Below w.heap.size w W → Calls Tryz.prog 15 #[.int .u8 k] W fun e w' => (∃ cap : Array Value, e = .returned (.tuple #[.agg #[.func (.func g) #[] cap, c, a, .bool l], .int .i64 0]) ∧ PlC w' g cap c a l rd) ∧ Below W.heap.size W w'
theorem KindC.below {w w' : World} {k : Int} {g : Nat} {c a : Value} {l : Bool} {rd : RdV} (h : KindC w k g c a l rd) (hb : Below w.heap.size w w') : KindC w' k g c a l rd := fun W hW => h W (hb.trans (hW.mono hb.size))
theorem readK_go (w : World) (k : Int) (g : Nat) (c a : Value) (l : Bool) (rd : RdV) (HK : KindC w k g c a l rd) (hc : c.oneCell' = true) (ha : a.oneCell' = true) (ck : Int) (nm tx : ByteArray) (n m : Int) (h0 : 0 ≤ ck) (h1 : ck ≤ 255) (h2 : tx.size ≤ 1000000) (h3 : R n) (h4 : R m) (hr : (plainR rd ck tx n m).2.2.2 = true) :
    DoesU w 8 #[.int .u8 k, .agg #[.int .u8 ck, .string nm, .string tx, .int .i64 n, .int .i64 m]] (.tuple #[.agg #[.int .u8 (plainR rd ck tx n m).1, .string ⟨#[]⟩, .string (plainR rd ck tx n m).2.1, .int .i64 (plainR rd ck tx n m).2.2.1, .int .i64 0], .int .i64 0]) := fun W hW =>
  sread_go k ck nm tx n m _ _ _ _ _ W (Lib.hid fun W' hW' => (HK.below hW W' hW').mono fun e w' ⟨⟨cap, he, hp⟩, hb⟩ => ⟨⟨g, cap, c, a, l, he, Lib.hid ⟨hc, ha⟩, Lib.hid (by have := hp ck nm tx n m h0 h1 h2 h3 h4; rw [hr] at this; exact this)⟩, hb⟩)
theorem readK_no (w : World) (k : Int) (g : Nat) (c a : Value) (l : Bool) (rd : RdV) (HK : KindC w k g c a l rd) (hc : c.oneCell' = true) (ha : a.oneCell' = true) (ck : Int) (nm tx : ByteArray) (n m : Int) (h0 : 0 ≤ ck) (h1 : ck ≤ 255) (h2 : tx.size ≤ 1000000) (h3 : R n) (h4 : R m) (hr : (plainR rd ck tx n m).2.2.2 = false) :
    DoesU w 8 #[.int .u8 k, .agg #[.int .u8 ck, .string nm, .string tx, .int .i64 n, .int .i64 m]] (.tuple #[.agg #[.int .u8 0, .string ⟨#[]⟩, .string ⟨#[]⟩, .int .i64 0, .int .i64 0], .int .i64 160]) := fun W hW =>
  sread_no k ck nm tx n m (plainR rd ck tx n m).1 ⟨#[]⟩ (plainR rd ck tx n m).2.1 (plainR rd ck tx n m).2.2.1 0 W (Lib.hid fun W' hW' => (HK.below hW W' hW').mono fun e w' ⟨⟨cap, he, hp⟩, hb⟩ => ⟨⟨g, cap, c, a, l, he, Lib.hid ⟨hc, ha⟩, Lib.hid (by have := hp ck nm tx n m h0 h1 h2 h3 h4; rw [hr] at this; exact this)⟩, hb⟩)
theorem v_150 : plainR (digsR (toldR decC)) 3 ⟨#[49, 46, 53, 48]⟩ 0 0 = (3, ⟨#[49, 46, 53]⟩, 0, true) := by
  rw [plainR_go _ _ _ _ (by rw [if_pos rfl])]; decide +kernel
theorem v_3 : plainR (digsR (toldR decC)) 2 ⟨#[]⟩ 3 0 = (3, ⟨#[51]⟩, 0, true) := by
  rw [plainR_go _ _ _ _ (by rw [if_neg (by decide)]; exact empty_toList)]; decide +kernel
theorem v_7 : plainR (digsR (toldR someC)) 2 ⟨#[]⟩ 7 0 = (3, ⟨#[55]⟩, 0, true) := by
  rw [plainR_go _ _ _ _ (by rw [if_neg (by decide)]; exact empty_toList)]; decide +kernel
theorem v_big : plainR numR 2 ⟨#[]⟩ 2147483648 0 = (2, ⟨#[]⟩, 2147483648, false) := by
  rw [plainR_go _ _ _ _ (by rw [if_neg (by decide)]; exact empty_toList)]; decide +kernel
theorem kindc_1 (w : World) (hE : EnvS w) : KindC w 1 24 (.func (.func 25) #[] #[]) (.func (.func 27) #[] #[]) false numR := fun W hW => kind_1 W (hE.below hW)
theorem kindc_2 (w : World) (hE : EnvS w) : KindC w 2 46 (.func (.func 22) #[] #[]) .nilFunc true (toldR sameC) := fun W hW => kind_2 W (hE.below hW)
theorem kindc_3 (w : World) (hE : EnvS w) : KindC w 3 30 .nilFunc .nilFunc false boolR := fun W hW => kind_3 W (hE.below hW)
theorem kindc_4 (w : World) (hE : EnvS w) : KindC w 4 48 (.func (.func 22) #[] #[]) .nilFunc true (digsR (toldR someC)) := fun W hW => kind_4 W (hE.below hW)
theorem kindc_7 (w : World) (hE : EnvS w) : KindC w 7 48 (.func (.func 37) #[] #[]) (.func (.func 38) #[] #[]) false (digsR (toldR decC)) := fun W hW => kind_7 W (hE.below hW)
theorem r_150 (w : World) (hE : EnvS w) : DoesU w 8 #[.int .u8 7, .agg #[.int .u8 3, .string ⟨#[]⟩, .string ⟨#[49, 46, 53, 48]⟩, .int .i64 0, .int .i64 0]] (.tuple #[.agg #[.int .u8 3, .string ⟨#[]⟩, .string ⟨#[49, 46, 53]⟩, .int .i64 0, .int .i64 0], .int .i64 0]) := by
  have := readK_go w 7 _ _ _ _ _ (kindc_7 w hE) rfl rfl 3 ⟨#[]⟩ ⟨#[49, 46, 53, 48]⟩ 0 0 (by omega) (by omega) (by decide) (by unfold R; omega) (by unfold R; omega) (by rw [v_150])
  rw [v_150] at this
  exact this
theorem r_3 (w : World) (hE : EnvS w) : DoesU w 8 #[.int .u8 7, .agg #[.int .u8 2, .string ⟨#[]⟩, .string ⟨#[]⟩, .int .i64 3, .int .i64 0]] (.tuple #[.agg #[.int .u8 3, .string ⟨#[]⟩, .string ⟨#[51]⟩, .int .i64 0, .int .i64 0], .int .i64 0]) := by
  have := readK_go w 7 _ _ _ _ _ (kindc_7 w hE) rfl rfl 2 ⟨#[]⟩ ⟨#[]⟩ 3 0 (by omega) (by omega) (by decide) (by unfold R; omega) (by unfold R; omega) (by rw [v_3])
  rw [v_3] at this
  exact this
theorem r_7 (w : World) (hE : EnvS w) : DoesU w 8 #[.int .u8 4, .agg #[.int .u8 2, .string ⟨#[]⟩, .string ⟨#[]⟩, .int .i64 7, .int .i64 0]] (.tuple #[.agg #[.int .u8 3, .string ⟨#[]⟩, .string ⟨#[55]⟩, .int .i64 0, .int .i64 0], .int .i64 0]) := by
  have := readK_go w 4 _ _ _ _ _ (kindc_4 w hE) rfl rfl 2 ⟨#[]⟩ ⟨#[]⟩ 7 0 (by omega) (by omega) (by decide) (by unfold R; omega) (by unfold R; omega) (by rw [v_7])
  rw [v_7] at this
  exact this
theorem r_big (w : World) (hE : EnvS w) : DoesU w 8 #[.int .u8 1, .agg #[.int .u8 2, .string ⟨#[]⟩, .string ⟨#[]⟩, .int .i64 2147483648, .int .i64 0]] (.tuple #[.agg #[.int .u8 0, .string ⟨#[]⟩, .string ⟨#[]⟩, .int .i64 0, .int .i64 0], .int .i64 160]) := by
  have := readK_no w 1 _ _ _ _ _ (kindc_1 w hE) rfl rfl 2 ⟨#[]⟩ ⟨#[]⟩ 2147483648 0 (by omega) (by omega) (by decide) (by unfold R; omega) (by unfold R; omega) (by rw [v_big])
  exact this
set_option maxRecDepth 100000 in
set_option maxHeartbeats 4000000 in
theorem ltext_d (s : ByteArray) (w : World) : DoesU w 12 #[.string s] (.agg #[.int .u8 3, .string ⟨#[]⟩, .string s, .int .i64 0, .int .i64 0]) := fun W _ => by
  go_enter Tryz.func12, Tryz.ntmps12
  go_wp2_with fail
  go_returns
  exact ⟨rfl, by go_grown⟩
set_option maxRecDepth 100000 in
set_option maxHeartbeats 4000000 in
theorem lnumber_d (n : Int) (w : World) : DoesU w 13 #[.int .i64 n] (.agg #[.int .u8 2, .string ⟨#[]⟩, .string ⟨#[]⟩, .int .i64 n, .int .i64 0]) := fun W _ => by
  go_enter Tryz.func13, Tryz.ntmps13
  go_wp2_with fail
  go_returns
  exact ⟨rfl, by go_grown⟩
set_option maxRecDepth 100000 in
set_option maxHeartbeats 4000000 in
theorem reads_yes (k : Int) (k1 : Int) (nm1 tx1 : ByteArray) (n1 m1 : Int) (k2 : Int) (nm2 tx2 : ByteArray) (n2 m2 : Int) (w : World) (HR : Hid (DoesU w 8 #[.int .u8 k, .agg #[.int .u8 k1, .string nm1, .string tx1, .int .i64 n1, .int .i64 m1]] (.tuple #[.agg #[.int .u8 k2, .string nm2, .string tx2, .int .i64 n2, .int .i64 m2], .int .i64 0]))) :
    Calls Tryz.prog 9 #[.int .u8 k, .agg #[.int .u8 k1, .string nm1, .string tx1, .int .i64 n1, .int .i64 m1], .agg #[.int .u8 k2, .string nm2, .string tx2, .int .i64 n2, .int .i64 m2]] w fun e w' => e = .returned (.bool true) ∧ Below w.heap.size w w' := by
  go_enter Tryz.func9, Tryz.ntmps9
  go_wp2_with fail
  refine (HR.out _ (by first | exact Below.refl _ _ | (go_grown; done))).mono ?_; rintro e w1 ⟨rfl, hb⟩
  have hh0 : w1.heap[w.heap.size]? = some (.cells #[.int .u8 k1, .string nm1, .string tx1, .int .i64 n1, .int .i64 m1] 23 (0, 0)) := (hb.block _ (by first | omega | (simp; done) | (simp; omega))).trans (heap_old (o' := (.cells #[.int .u8 k2, .string nm2, .string tx2, .int .i64 n2, .int .i64 m2] 23 (0, 0))) (heap_new _ _ _ (by first | rfl | simp)))
  have hh1 : w1.heap[w.heap.size + 1]? = some (.cells #[.int .u8 k2, .string nm2, .string tx2, .int .i64 n2, .int .i64 m2] 23 (0, 0)) := (hb.block _ (by first | omega | (simp; done) | (simp; omega))).trans (heap_new _ _ _ (by first | rfl | simp))
  have hbw1 : Below w.heap.size w w1 := (show Below w.heap.size w _ by first | exact Below.refl _ _ | (go_grown; done)).trans (hb.mono (by first | omega | (simp; done) | (simp; omega)))
  clear hb
  have HH0_1 := Lib.hid hh0
  have lt0 := heap_lt hh0
  have c0_0 : w1.cell? ⟨w.heap.size, 0, none⟩ = some (.int .u8 k1) := by rw [Lib.cell_of_heap hh0]; rfl
  have c0_1 : w1.cell? ⟨w.heap.size, 1, none⟩ = some (.string nm1) := by rw [Lib.cell_of_heap hh0]; rfl
  have c0_2 : w1.cell? ⟨w.heap.size, 2, none⟩ = some (.string tx1) := by rw [Lib.cell_of_heap hh0]; rfl
  have c0_3 : w1.cell? ⟨w.heap.size, 3, none⟩ = some (.int .i64 n1) := by rw [Lib.cell_of_heap hh0]; rfl
  have c0_4 : w1.cell? ⟨w.heap.size, 4, none⟩ = some (.int .i64 m1) := by rw [Lib.cell_of_heap hh0]; rfl
  clear hh0
  have HH1_1 := Lib.hid hh1
  have lt1 := heap_lt hh1
  have c1_0 : w1.cell? ⟨w.heap.size + 1, 0, none⟩ = some (.int .u8 k2) := by rw [Lib.cell_of_heap hh1]; rfl
  have c1_1 : w1.cell? ⟨w.heap.size + 1, 1, none⟩ = some (.string nm2) := by rw [Lib.cell_of_heap hh1]; rfl
  have c1_2 : w1.cell? ⟨w.heap.size + 1, 2, none⟩ = some (.string tx2) := by rw [Lib.cell_of_heap hh1]; rfl
  have c1_3 : w1.cell? ⟨w.heap.size + 1, 3, none⟩ = some (.int .i64 n2) := by rw [Lib.cell_of_heap hh1]; rfl
  have c1_4 : w1.cell? ⟨w.heap.size + 1, 4, none⟩ = some (.int .i64 m2) := by rw [Lib.cell_of_heap hh1]; rfl
  clear hh1
  have sz1 := hbw1.size
  have HW1 := Lib.hid hbw1
  go_wp2_with fail
  go_ret
  exact ⟨rfl, by first | exact HW1.out | (go_grown; done)⟩
set_option maxRecDepth 100000 in
set_option maxHeartbeats 4000000 in
theorem none_yes (k : Int) (k1 : Int) (nm1 tx1 : ByteArray) (n1 m1 : Int) (w : World) (HR : Hid (DoesU w 8 #[.int .u8 k, .agg #[.int .u8 k1, .string nm1, .string tx1, .int .i64 n1, .int .i64 m1]] (.tuple #[.agg #[.int .u8 0, .string ⟨#[]⟩, .string ⟨#[]⟩, .int .i64 0, .int .i64 0], .int .i64 160]))) :
    Calls Tryz.prog 14 #[.int .u8 k, .agg #[.int .u8 k1, .string nm1, .string tx1, .int .i64 n1, .int .i64 m1]] w fun e w' => e = .returned (.bool true) ∧ Below w.heap.size w w' := by
  go_enter Tryz.func14, Tryz.ntmps14
  go_wp2_with fail
  refine (HR.out _ (by first | exact Below.refl _ _ | (go_grown; done))).mono ?_; rintro e w1 ⟨rfl, hb⟩
  have hh0 : w1.heap[w.heap.size]? = some (.cells #[.int .u8 k1, .string nm1, .string tx1, .int .i64 n1, .int .i64 m1] 23 (0, 0)) := (hb.block _ (by first | omega | (simp; done) | (simp; omega))).trans (heap_new _ _ _ (by first | rfl | simp))
  have hbw1 : Below w.heap.size w w1 := (show Below w.heap.size w _ by first | exact Below.refl _ _ | (go_grown; done)).trans (hb.mono (by first | omega | (simp; done) | (simp; omega)))
  clear hb
  have HH0_1 := Lib.hid hh0
  have lt0 := heap_lt hh0
  have c0_0 : w1.cell? ⟨w.heap.size, 0, none⟩ = some (.int .u8 k1) := by rw [Lib.cell_of_heap hh0]; rfl
  have c0_1 : w1.cell? ⟨w.heap.size, 1, none⟩ = some (.string nm1) := by rw [Lib.cell_of_heap hh0]; rfl
  have c0_2 : w1.cell? ⟨w.heap.size, 2, none⟩ = some (.string tx1) := by rw [Lib.cell_of_heap hh0]; rfl
  have c0_3 : w1.cell? ⟨w.heap.size, 3, none⟩ = some (.int .i64 n1) := by rw [Lib.cell_of_heap hh0]; rfl
  have c0_4 : w1.cell? ⟨w.heap.size, 4, none⟩ = some (.int .i64 m1) := by rw [Lib.cell_of_heap hh0]; rfl
  clear hh0
  have sz1 := hbw1.size
  have HW1 := Lib.hid hbw1
  go_wp2_with fail
  go_ret
  exact ⟨rfl, by first | exact HW1.out | (go_grown; done)⟩
end Go.Proofs.YtjhgiojmlkeccaaGreatDoor
namespace Go.Proofs.YtjhgiojmlkeccaaGreatDoor
open Go.RowKit Go.Shelf
theorem keepL {w W W' : World} (hb : Below W.heap.size W W') (h : (fun W => Below w.heap.size w W ∧ EnvS W) W) : (fun W => Below w.heap.size w W ∧ EnvS W) W' := ⟨h.1.trans (hb.mono h.1.size), h.2.below hb⟩
set_option maxRecDepth 100000 in
set_option maxHeartbeats 4000000 in
theorem lalive16 (w : World) (hE : EnvS w) :
    Calls Tryz.prog 6 #[] w fun e w' => e = .returned (.bool true) ∧ Below w.heap.size w w' := by
  go_enter Tryz.func6, Tryz.ntmps6
  go_wp2_with fail
  have hHeld : (fun W => Below w.heap.size w W ∧ EnvS W) w := ⟨Below.refl _ _, hE⟩
  skip
  refine ((ltext_d ⟨#[49, 46, 53, 48]⟩ w) _ hHeld.1).mono ?_; rintro e wc0 ⟨rfl, hb⟩
  go_wp2_with fail
  have hHeld : (fun W => Below w.heap.size w W ∧ EnvS W) wc0 := keepL hb hHeld
  clear hb
  refine ((ltext_d ⟨#[49, 46, 53]⟩ w) _ hHeld.1).mono ?_; rintro e wc1 ⟨rfl, hb⟩
  go_wp2_with fail
  have hHeld : (fun W => Below w.heap.size w W ∧ EnvS W) wc1 := keepL hb hHeld
  clear hb
  refine (reads_yes 7 3 ⟨#[]⟩ ⟨#[49, 46, 53, 48]⟩ 0 0 3 ⟨#[]⟩ ⟨#[49, 46, 53]⟩ 0 0 _ (Lib.hid (r_150 _ hHeld.2))).mono ?_; rintro e wc2 ⟨rfl, hb⟩
  go_wp2_with fail
  have hHeld : (fun W => Below w.heap.size w W ∧ EnvS W) wc2 := keepL hb hHeld
  clear hb
  refine ((lnumber_d 3 w) _ hHeld.1).mono ?_; rintro e wc3 ⟨rfl, hb⟩
  go_wp2_with fail
  have hHeld : (fun W => Below w.heap.size w W ∧ EnvS W) wc3 := keepL hb hHeld
  clear hb
  refine ((ltext_d ⟨#[51]⟩ w) _ hHeld.1).mono ?_; rintro e wc4 ⟨rfl, hb⟩
  go_wp2_with fail
  have hHeld : (fun W => Below w.heap.size w W ∧ EnvS W) wc4 := keepL hb hHeld
  clear hb
  refine (reads_yes 7 2 ⟨#[]⟩ ⟨#[]⟩ 3 0 3 ⟨#[]⟩ ⟨#[51]⟩ 0 0 _ (Lib.hid (r_3 _ hHeld.2))).mono ?_; rintro e wc5 ⟨rfl, hb⟩
  go_wp2_with fail
  have hHeld : (fun W => Below w.heap.size w W ∧ EnvS W) wc5 := keepL hb hHeld
  clear hb
  refine ((lnumber_d 7 w) _ hHeld.1).mono ?_; rintro e wc6 ⟨rfl, hb⟩
  go_wp2_with fail
  have hHeld : (fun W => Below w.heap.size w W ∧ EnvS W) wc6 := keepL hb hHeld
  clear hb
  refine ((ltext_d ⟨#[55]⟩ w) _ hHeld.1).mono ?_; rintro e wc7 ⟨rfl, hb⟩
  go_wp2_with fail
  have hHeld : (fun W => Below w.heap.size w W ∧ EnvS W) wc7 := keepL hb hHeld
  clear hb
  refine (reads_yes 4 2 ⟨#[]⟩ ⟨#[]⟩ 7 0 3 ⟨#[]⟩ ⟨#[55]⟩ 0 0 _ (Lib.hid (r_7 _ hHeld.2))).mono ?_; rintro e wc8 ⟨rfl, hb⟩
  go_wp2_with fail
  have hHeld : (fun W => Below w.heap.size w W ∧ EnvS W) wc8 := keepL hb hHeld
  clear hb
  refine ((lnumber_d 2147483648 w) _ hHeld.1).mono ?_; rintro e wc9 ⟨rfl, hb⟩
  go_wp2_with fail
  have hHeld : (fun W => Below w.heap.size w W ∧ EnvS W) wc9 := keepL hb hHeld
  clear hb
  refine (none_yes 1 2 ⟨#[]⟩ ⟨#[]⟩ 2147483648 0 _ (Lib.hid (r_big _ hHeld.2))).mono ?_; rintro e wc10 ⟨rfl, hb⟩
  go_wp2_with fail
  go_ret
  exact ⟨rfl, hHeld.1.trans (hb.mono hHeld.1.size)⟩
end Go.Proofs.YtjhgiojmlkeccaaGreatDoor
namespace Go.Proofs.YtjhgiojmlkeccaaGreatDoor
open Go.RowKit Go.Shelf
/-- Is a cell in one way? -/
def okP (rd : RdV) (ck : Int) (nm tx : ByteArray) (n m : Int) : Prop := plainR rd ck tx n m = (ck, tx, n, true) ∧ nm = ⟨#[]⟩ ∧ m = 0
instance (rd : RdV) (ck : Int) (nm tx : ByteArray) (n m : Int) : Decidable (okP rd ck nm tx n m) := by unfold okP; exact inferInstance
theorem toL_inj {a b : ByteArray} (h : a.toList = b.toList) : a = b := by
  rw [ByteArray.toList_eq, ByteArray.toList_eq] at h
  have := Array.toList_inj.1 h
  cases a; cases b; simp_all
end Go.Proofs.YtjhgiojmlkeccaaGreatDoor
namespace Go.Proofs.YtjhgiojmlkeccaaGreatDoor
open Go.RowKit Go.Shelf
theorem PlC.below {w w' : World} {g : Nat} {cap : Array Value} {c a : Value} {l : Bool} {rd : RdV} (h : PlC w g cap c a l rd) (hb : Below w.heap.size w w') : PlC w' g cap c a l rd := fun ck nm tx n m h0 h1 h2 h3 h4 => (h ck nm tx n m h0 h1 h2 h3 h4).below hb
end Go.Proofs.YtjhgiojmlkeccaaGreatDoor
namespace Go.Proofs.YtjhgiojmlkeccaaGreatDoor
/-- The days ahead of a month, in years that begin with March. -/
def aheadD (m : Int) : Int := if m = 0 then 0 else if m = 1 then 31 else if m = 2 then 61 else if m = 3 then 92 else if m = 4 then 122 else if m = 5 then 153 else if m = 6 then 184 else if m = 7 then 214 else if m = 8 then 245 else if m = 9 then 275 else if m = 10 then 306 else 337
def monthD (n : Int) : Int := if 337 ≤ n then 11 else if 306 ≤ n then 10 else if 275 ≤ n then 9 else if 245 ≤ n then 8 else if 214 ≤ n then 7 else if 184 ≤ n then 6 else if 153 ≤ n then 5 else if 122 ≤ n then 4 else if 92 ≤ n then 3 else if 61 ≤ n then 2 else if 31 ≤ n then 1 else 0
def sinceD (y m d : Int) : Int :=
  if m < 3 then 365 * (y - 1) + (y - 1) / 4 - (y - 1) / 100 + (y - 1) / 400 + aheadD (m + 9) + d - 1
  else 365 * y + y / 4 - y / 100 + y / 400 + aheadD (m - 3) + d - 1
/-- The day of an era; its year in it; the day of that year. -/
def eraR (n : Int) : Int := n - n / 146097 * 146097
def eraY (r : Int) : Int := (r - r / 1460 + r / 36524 - r / 146096) / 365
def eraD (r : Int) : Int := r - (365 * eraY r + eraY r / 4 - eraY r / 100)
def dateY (n : Int) : Int := eraY (eraR n) + 400 * (n / 146097) + (if 12 < monthD (eraD (eraR n)) + 3 then 1 else 0)
def dateM (n : Int) : Int := if 12 < monthD (eraD (eraR n)) + 3 then monthD (eraD (eraR n)) + 3 - 12 else monthD (eraD (eraR n)) + 3
def dateDD (n : Int) : Int := eraD (eraR n) - aheadD (monthD (eraD (eraR n))) + 1
theorem eraR_bd (n : Int) : 0 ≤ eraR n ∧ eraR n ≤ 146096 := by unfold eraR; omega
theorem eraY_bd (r : Int) (h0 : 0 ≤ r) (h1 : r ≤ 146096) : 0 ≤ eraY r ∧ eraY r ≤ 399 := by unfold eraY; omega
theorem eraY_mono (r r' : Int) (h : r ≤ r') : eraY r ≤ eraY r' := by
  unfold eraY
  have e1 : r / 146096 = r / 36524 / 4 := by rw [Int.ediv_ediv_of_nonneg (by omega)]; rfl
  have e2 : r' / 146096 = r' / 36524 / 4 := by rw [Int.ediv_ediv_of_nonneg (by omega)]; rfl
  rw [e1, e2]
  have a : r - r / 1460 ≤ r' - r' / 1460 := by omega
  have b : r / 36524 ≤ r' / 36524 := Int.ediv_le_ediv (by omega) h
  have c : r / 36524 - r / 36524 / 4 ≤ r' / 36524 - r' / 36524 / 4 := by
    generalize r / 36524 = u at *
    generalize r' / 36524 = v at *
    omega
  generalize r / 36524 - r / 36524 / 4 = u at *
  omega
theorem era_tab : ∀ y : Nat, y < 400 → (0 < y → eraY (365 * (y : Int) + (y : Int) / 4 - (y : Int) / 100 - 1) < y) ∧ (y < 399 → (y : Int) < eraY (365 * ((y : Int) + 1) + ((y : Int) + 1) / 4 - ((y : Int) + 1) / 100)) := by decide +kernel
theorem eraD_bd (r : Int) (h0 : 0 ≤ r) (h1 : r ≤ 146096) : 0 ≤ eraD r ∧ eraD r ≤ 365 := by
  obtain ⟨y0, y1⟩ := eraY_bd r h0 h1
  obtain ⟨y, hy⟩ : ∃ y : Nat, eraY r = y := ⟨(eraY r).toNat, by omega⟩
  obtain ⟨t1, t2⟩ := era_tab y (by omega)
  unfold eraD
  have l1 : 365 * (y : Int) + (y : Int) / 4 - (y : Int) / 100 ≤ r := by
    refine Int.not_lt.1 fun h => ?_
    have h3 := eraY_mono r (365 * (y : Int) + (y : Int) / 4 - (y : Int) / 100 - 1) (by omega)
    by_cases hy0 : 0 < y
    · have := t1 hy0
      omega
    · omega
  rw [hy]
  by_cases h : y < 399
  · have l2 : r < 365 * ((y : Int) + 1) + ((y : Int) + 1) / 4 - ((y : Int) + 1) / 100 := by
      refine Int.not_le.1 fun h' => ?_
      have := eraY_mono (365 * ((y : Int) + 1) + ((y : Int) + 1) / 4 - ((y : Int) + 1) / 100) r h'
      have := t2 h
      omega
    omega
  · obtain rfl : y = 399 := by omega
    omega
theorem monthD_bd (n : Int) : 0 ≤ monthD n ∧ monthD n ≤ 11 := by
  unfold monthD
  repeat' split
  all_goals omega
theorem aheadD_bd (m : Int) : 0 ≤ aheadD m ∧ aheadD m ≤ 337 := by
  unfold aheadD
  repeat' split
  all_goals omega
theorem month_down (n m : Int) (h0 : 0 ≤ n) (h : monthD n ≤ m) (h1 : m ≤ 11) (ha : n < aheadD m) : monthD n ≤ m - 1 ∧ 1 ≤ m := by
  unfold monthD at *
  unfold aheadD at ha
  have hm : m = 0 ∨ m = 1 ∨ m = 2 ∨ m = 3 ∨ m = 4 ∨ m = 5 ∨ m = 6 ∨ m = 7 ∨ m = 8 ∨ m = 9 ∨ m = 10 ∨ m = 11 := by
    have := (monthD_bd n).1
    unfold monthD at this
    omega
  rcases hm with rfl | rfl | rfl | rfl | rfl | rfl | rfl | rfl | rfl | rfl | rfl | rfl <;> simp at ha h ⊢ <;> omega
theorem month_done (n m : Int) (h0 : 0 ≤ n) (h : monthD n ≤ m) (h1 : m ≤ 11) (ha : aheadD m ≤ n) : m = monthD n := by
  unfold monthD at *
  unfold aheadD at ha
  have hm : m = 0 ∨ m = 1 ∨ m = 2 ∨ m = 3 ∨ m = 4 ∨ m = 5 ∨ m = 6 ∨ m = 7 ∨ m = 8 ∨ m = 9 ∨ m = 10 ∨ m = 11 := by
    have := (monthD_bd n).1
    unfold monthD at this
    omega
  rcases hm with rfl | rfl | rfl | rfl | rfl | rfl | rfl | rfl | rfl | rfl | rfl | rfl <;> simp at ha h ⊢ <;> omega
/-- What is read of a text: so many digits between two bounds; a mark; a fraction: the value, what is left, whether it is bad. -/
def valU (l : List UInt8) : Int := l.foldl (fun n c => n * 10 + ((c.toNat : Int) - 48) % 256) 0
def dNum (many : Nat) (low high : Int) (s : List UInt8) (bad : Bool) : Int × List UInt8 × Bool :=
  if s.length < many then (low, s, true)
  else
    let b := bad || (s.take many).any (fun c => !isDig c) || decide (valU (s.take many) < low) || decide (high < valU (s.take many))
    (if b then low else valU (s.take many), s.drop many, b)
def dMark (marks : List UInt8) (s : List UInt8) (bad : Bool) : Nat × List UInt8 × Bool :=
  match s with
  | [] => (0, [], true)
  | c :: r => if marks.contains c then (c.toNat, r, bad) else (0, c :: r, true)
def dFrac (s : List UInt8) (bad : Bool) : Int × List UInt8 × Bool :=
  match s with
  | [] => (0, [], bad)
  | c :: r =>
    if c = 46 then
      let k := (r.takeWhile isDig).length
      if k < 1 ∨ 9 < k then (0, r, true)
      else ((dNum k 0 999999999 r bad).1 * 10 ^ (9 - k), (dNum k 0 999999999 r bad).2)
    else (0, c :: r, bad)
theorem valU_bd (l : List UInt8) : 0 ≤ valU l ∧ valU l ≤ 256 * 10 ^ l.length - 256 := by
  have key : ∀ (l : List UInt8) (n : Int) (k : Nat), 0 ≤ n → n ≤ 256 * 10 ^ k - 256 → 0 ≤ l.foldl (fun n c => n * 10 + ((c.toNat : Int) - 48) % 256) n ∧ l.foldl (fun n c => n * 10 + ((c.toNat : Int) - 48) % 256) n ≤ 256 * 10 ^ (k + l.length) - 256 := by
    intro l
    induction l with
    | nil => intro n k h0 h1; exact ⟨h0, h1⟩
    | cons c r ih =>
      intro n k h0 h1
      have h2 : (256 : Int) * 10 ^ (k + 1) - 256 = (256 * 10 ^ k - 256) * 10 + 2304 := by rw [Int.pow_succ]; omega
      have := ih (n * 10 + ((c.toNat : Int) - 48) % 256) (k + 1) (by omega) (by omega)
      rw [List.foldl_cons, List.length_cons]
      rw [show k + (r.length + 1) = k + 1 + r.length by omega]
      exact this
  have := key l 0 0 (by omega) (by omega)
  rw [Nat.zero_add] at this
  exact this
theorem dNum_bd (many : Nat) (low high : Int) (s : List UInt8) (bad : Bool) (hl : low ≤ high) : low ≤ (dNum many low high s bad).1 ∧ (dNum many low high s bad).1 ≤ high := by
  unfold dNum
  split
  · exact ⟨Int.le_refl _, hl⟩
  · dsimp only
    split
    · exact ⟨Int.le_refl _, hl⟩
    · rename_i h
      simp only [Bool.or_eq_true, not_or, decide_eq_true_eq, Bool.not_eq_true] at h
      omega
end Go.Proofs.YtjhgiojmlkeccaaGreatDoor
namespace Go.Proofs.YtjhgiojmlkeccaaGreatDoor
open Go.RowKit Go.Shelf
set_option maxRecDepth 100000 in
set_option maxHeartbeats 4000000 in
theorem ahead_0 (w : World) : Calls Tryz.prog 119 #[.int .i64 0] w fun e w' => e = .returned (.int .i64 0) ∧ w = w' := by
  have ix : ∀ w : World, (Instr.index 226 (.agg #[.int .i64 0, .int .i64 31, .int .i64 61, .int .i64 92, .int .i64 122, .int .i64 153, .int .i64 184, .int .i64 214, .int .i64 245, .int .i64 275, .int .i64 306, .int .i64 337]) (.int .i64 0)).run Tryz.prog w = .ok (.int .i64 0) w := fun w => by kernel_rfl
  go_enter Tryz.func119, Tryz.ntmps119
  go_wp2
  go_ret
  exact ⟨rfl, rfl⟩
set_option maxRecDepth 100000 in
set_option maxHeartbeats 4000000 in
theorem ahead_1 (w : World) : Calls Tryz.prog 119 #[.int .i64 1] w fun e w' => e = .returned (.int .i64 31) ∧ w = w' := by
  have ix : ∀ w : World, (Instr.index 226 (.agg #[.int .i64 0, .int .i64 31, .int .i64 61, .int .i64 92, .int .i64 122, .int .i64 153, .int .i64 184, .int .i64 214, .int .i64 245, .int .i64 275, .int .i64 306, .int .i64 337]) (.int .i64 1)).run Tryz.prog w = .ok (.int .i64 31) w := fun w => by kernel_rfl
  go_enter Tryz.func119, Tryz.ntmps119
  go_wp2
  go_ret
  exact ⟨rfl, rfl⟩
set_option maxRecDepth 100000 in
set_option maxHeartbeats 4000000 in
theorem ahead_2 (w : World) : Calls Tryz.prog 119 #[.int .i64 2] w fun e w' => e = .returned (.int .i64 61) ∧ w = w' := by
  have ix : ∀ w : World, (Instr.index 226 (.agg #[.int .i64 0, .int .i64 31, .int .i64 61, .int .i64 92, .int .i64 122, .int .i64 153, .int .i64 184, .int .i64 214, .int .i64 245, .int .i64 275, .int .i64 306, .int .i64 337]) (.int .i64 2)).run Tryz.prog w = .ok (.int .i64 61) w := fun w => by kernel_rfl
  go_enter Tryz.func119, Tryz.ntmps119
  go_wp2
  go_ret
  exact ⟨rfl, rfl⟩
set_option maxRecDepth 100000 in
set_option maxHeartbeats 4000000 in
theorem ahead_3 (w : World) : Calls Tryz.prog 119 #[.int .i64 3] w fun e w' => e = .returned (.int .i64 92) ∧ w = w' := by
  have ix : ∀ w : World, (Instr.index 226 (.agg #[.int .i64 0, .int .i64 31, .int .i64 61, .int .i64 92, .int .i64 122, .int .i64 153, .int .i64 184, .int .i64 214, .int .i64 245, .int .i64 275, .int .i64 306, .int .i64 337]) (.int .i64 3)).run Tryz.prog w = .ok (.int .i64 92) w := fun w => by kernel_rfl
  go_enter Tryz.func119, Tryz.ntmps119
  go_wp2
  go_ret
  exact ⟨rfl, rfl⟩
set_option maxRecDepth 100000 in
set_option maxHeartbeats 4000000 in
theorem ahead_4 (w : World) : Calls Tryz.prog 119 #[.int .i64 4] w fun e w' => e = .returned (.int .i64 122) ∧ w = w' := by
  have ix : ∀ w : World, (Instr.index 226 (.agg #[.int .i64 0, .int .i64 31, .int .i64 61, .int .i64 92, .int .i64 122, .int .i64 153, .int .i64 184, .int .i64 214, .int .i64 245, .int .i64 275, .int .i64 306, .int .i64 337]) (.int .i64 4)).run Tryz.prog w = .ok (.int .i64 122) w := fun w => by kernel_rfl
  go_enter Tryz.func119, Tryz.ntmps119
  go_wp2
  go_ret
  exact ⟨rfl, rfl⟩
set_option maxRecDepth 100000 in
set_option maxHeartbeats 4000000 in
theorem ahead_5 (w : World) : Calls Tryz.prog 119 #[.int .i64 5] w fun e w' => e = .returned (.int .i64 153) ∧ w = w' := by
  have ix : ∀ w : World, (Instr.index 226 (.agg #[.int .i64 0, .int .i64 31, .int .i64 61, .int .i64 92, .int .i64 122, .int .i64 153, .int .i64 184, .int .i64 214, .int .i64 245, .int .i64 275, .int .i64 306, .int .i64 337]) (.int .i64 5)).run Tryz.prog w = .ok (.int .i64 153) w := fun w => by kernel_rfl
  go_enter Tryz.func119, Tryz.ntmps119
  go_wp2
  go_ret
  exact ⟨rfl, rfl⟩
set_option maxRecDepth 100000 in
set_option maxHeartbeats 4000000 in
theorem ahead_6 (w : World) : Calls Tryz.prog 119 #[.int .i64 6] w fun e w' => e = .returned (.int .i64 184) ∧ w = w' := by
  have ix : ∀ w : World, (Instr.index 226 (.agg #[.int .i64 0, .int .i64 31, .int .i64 61, .int .i64 92, .int .i64 122, .int .i64 153, .int .i64 184, .int .i64 214, .int .i64 245, .int .i64 275, .int .i64 306, .int .i64 337]) (.int .i64 6)).run Tryz.prog w = .ok (.int .i64 184) w := fun w => by kernel_rfl
  go_enter Tryz.func119, Tryz.ntmps119
  go_wp2
  go_ret
  exact ⟨rfl, rfl⟩
set_option maxRecDepth 100000 in
set_option maxHeartbeats 4000000 in
theorem ahead_7 (w : World) : Calls Tryz.prog 119 #[.int .i64 7] w fun e w' => e = .returned (.int .i64 214) ∧ w = w' := by
  have ix : ∀ w : World, (Instr.index 226 (.agg #[.int .i64 0, .int .i64 31, .int .i64 61, .int .i64 92, .int .i64 122, .int .i64 153, .int .i64 184, .int .i64 214, .int .i64 245, .int .i64 275, .int .i64 306, .int .i64 337]) (.int .i64 7)).run Tryz.prog w = .ok (.int .i64 214) w := fun w => by kernel_rfl
  go_enter Tryz.func119, Tryz.ntmps119
  go_wp2
  go_ret
  exact ⟨rfl, rfl⟩
set_option maxRecDepth 100000 in
set_option maxHeartbeats 4000000 in
theorem ahead_8 (w : World) : Calls Tryz.prog 119 #[.int .i64 8] w fun e w' => e = .returned (.int .i64 245) ∧ w = w' := by
  have ix : ∀ w : World, (Instr.index 226 (.agg #[.int .i64 0, .int .i64 31, .int .i64 61, .int .i64 92, .int .i64 122, .int .i64 153, .int .i64 184, .int .i64 214, .int .i64 245, .int .i64 275, .int .i64 306, .int .i64 337]) (.int .i64 8)).run Tryz.prog w = .ok (.int .i64 245) w := fun w => by kernel_rfl
  go_enter Tryz.func119, Tryz.ntmps119
  go_wp2
  go_ret
  exact ⟨rfl, rfl⟩
set_option maxRecDepth 100000 in
set_option maxHeartbeats 4000000 in
theorem ahead_9 (w : World) : Calls Tryz.prog 119 #[.int .i64 9] w fun e w' => e = .returned (.int .i64 275) ∧ w = w' := by
  have ix : ∀ w : World, (Instr.index 226 (.agg #[.int .i64 0, .int .i64 31, .int .i64 61, .int .i64 92, .int .i64 122, .int .i64 153, .int .i64 184, .int .i64 214, .int .i64 245, .int .i64 275, .int .i64 306, .int .i64 337]) (.int .i64 9)).run Tryz.prog w = .ok (.int .i64 275) w := fun w => by kernel_rfl
  go_enter Tryz.func119, Tryz.ntmps119
  go_wp2
  go_ret
  exact ⟨rfl, rfl⟩
set_option maxRecDepth 100000 in
set_option maxHeartbeats 4000000 in
theorem ahead_10 (w : World) : Calls Tryz.prog 119 #[.int .i64 10] w fun e w' => e = .returned (.int .i64 306) ∧ w = w' := by
  have ix : ∀ w : World, (Instr.index 226 (.agg #[.int .i64 0, .int .i64 31, .int .i64 61, .int .i64 92, .int .i64 122, .int .i64 153, .int .i64 184, .int .i64 214, .int .i64 245, .int .i64 275, .int .i64 306, .int .i64 337]) (.int .i64 10)).run Tryz.prog w = .ok (.int .i64 306) w := fun w => by kernel_rfl
  go_enter Tryz.func119, Tryz.ntmps119
  go_wp2
  go_ret
  exact ⟨rfl, rfl⟩
set_option maxRecDepth 100000 in
set_option maxHeartbeats 4000000 in
theorem ahead_11 (w : World) : Calls Tryz.prog 119 #[.int .i64 11] w fun e w' => e = .returned (.int .i64 337) ∧ w = w' := by
  have ix : ∀ w : World, (Instr.index 226 (.agg #[.int .i64 0, .int .i64 31, .int .i64 61, .int .i64 92, .int .i64 122, .int .i64 153, .int .i64 184, .int .i64 214, .int .i64 245, .int .i64 275, .int .i64 306, .int .i64 337]) (.int .i64 11)).run Tryz.prog w = .ok (.int .i64 337) w := fun w => by kernel_rfl
  go_enter Tryz.func119, Tryz.ntmps119
  go_wp2
  go_ret
  exact ⟨rfl, rfl⟩
theorem ahead_any (m : Int) (h0 : 0 ≤ m) (h1 : m ≤ 11) (w : World) : Calls Tryz.prog 119 #[.int .i64 m] w fun e w' => e = .returned (.int .i64 (aheadD m)) ∧ w = w' := by
  have hm : m = 0 ∨ m = 1 ∨ m = 2 ∨ m = 3 ∨ m = 4 ∨ m = 5 ∨ m = 6 ∨ m = 7 ∨ m = 8 ∨ m = 9 ∨ m = 10 ∨ m = 11 := by omega
  rcases hm with rfl | rfl | rfl | rfl | rfl | rfl | rfl | rfl | rfl | rfl | rfl | rfl
  · exact ahead_0 w
  · exact ahead_1 w
  · exact ahead_2 w
  · exact ahead_3 w
  · exact ahead_4 w
  · exact ahead_5 w
  · exact ahead_6 w
  · exact ahead_7 w
  · exact ahead_8 w
  · exact ahead_9 w
  · exact ahead_10 w
  · exact ahead_11 w
set_option maxRecDepth 100000 in
set_option maxHeartbeats 4000000 in
theorem floor_pos (a b : Int) (h0 : 0 ≤ a) (h1 : a ≤ 1000000000) (hb : 1 ≤ b) (hb1 : b ≤ 1000000) (w : World) : Calls Tryz.prog 118 #[.int .i64 a, .int .i64 b] w fun e w' => e = .returned (.int .i64 (a / b)) ∧ w = w' := by
  have hq0 : 0 ≤ a / b := Int.ediv_nonneg h0 (by omega)
  have hq1 : a / b ≤ 1000000000 := by
    have := Int.ediv_le_self b h0
    omega
  have hr0 : 0 ≤ a % b := Int.emod_nonneg a (by omega)
  have hn : decide (a % b < 0) = false := by simpa using hr0
  have ht : a.tdiv b = a / b := Int.tdiv_eq_ediv_of_nonneg h0
  have hm : a.tmod b = a % b := Int.tmod_eq_emod_of_nonneg h0
  have hz : (b == 0) = false := by simp; omega
  go_enter Tryz.func118, Tryz.ntmps118
  go_wp2
  go_ret
  exact ⟨rfl, rfl⟩
set_option maxRecDepth 100000 in
set_option maxHeartbeats 4000000 in
theorem floor_neg (a b : Int) (h0 : a < 0) (h1 : -b < a) (hb : 1 ≤ b) (hb1 : b ≤ 1000000) (w : World) : Calls Tryz.prog 118 #[.int .i64 a, .int .i64 b] w fun e w' => e = .returned (.int .i64 (-1)) ∧ w = w' := by
  have ht : a.tdiv b = 0 := by
    have : a = -(-a) := by omega
    rw [this, Int.neg_tdiv, Int.tdiv_eq_ediv_of_nonneg (by omega), Int.ediv_eq_zero_of_lt (by omega) (by omega)]; rfl
  have hm : a.tmod b = a := by
    have := Int.tmod_add_mul_tdiv a b
    rw [ht] at this; simpa using this
  have hz : (b == 0) = false := by simp; omega
  have hn : decide (a < 0) = true := by simpa using h0
  go_enter Tryz.func118, Tryz.ntmps118
  go_wp2
  go_ret
  exact ⟨rfl, rfl⟩
theorem floor_any (a b : Int) (h1 : -b < a) (h2 : a ≤ 1000000000) (hb : 1 ≤ b) (hb1 : b ≤ 1000000) (w : World) : Calls Tryz.prog 118 #[.int .i64 a, .int .i64 b] w fun e w' => e = .returned (.int .i64 (a / b)) ∧ w = w' := by
  by_cases h : 0 ≤ a
  · exact floor_pos a b h h2 hb hb1 w
  · have e : a / b = -1 := by
      have h3 : a = (a + b) + b * (-1) := by omega
      rw [h3, Int.add_mul_ediv_left _ _ (by omega), Int.ediv_eq_zero_of_lt (by omega) (by omega)]; rfl
    rw [e]
    exact floor_neg a b (by omega) h1 hb hb1 w
set_option maxRecDepth 100000 in
set_option maxHeartbeats 4000000 in
theorem since_lo (y m d : Int) (hy0 : 0 ≤ y) (hy1 : y ≤ 9999) (hm0 : 1 ≤ m) (hm1 : m ≤ 12) (hd0 : 1 ≤ d) (hd1 : d ≤ 31) (hm : m < 3) (w : World) :
    Calls Tryz.prog 75 #[.int .i64 y, .int .i64 m, .int .i64 d] w fun e w' => e = .returned (.int .i64 (sinceD y m d)) ∧ w = w' := by
  have HR : Hid (365 * (y - 1) + (y - 1) / 4 - (y - 1) / 100 + (y - 1) / 400 + aheadD (m + 9) + d - 1 = sinceD y m d) := Lib.hid (by unfold sinceD; rw [if_pos hm])
  obtain ⟨a, ha⟩ : ∃ a, aheadD (m + 9) = a := ⟨_, rfl⟩
  have hab := aheadD_bd (m + 9)
  rw [ha] at hab HR
  have HA : Hid (∀ W, Calls Tryz.prog 119 #[.int .i64 (m + 9)] W fun e w' => e = .returned (.int .i64 a) ∧ W = w') := Lib.hid fun W => by have := ahead_any (m + 9) (by omega) (by omega) W; rw [ha] at this; exact this
  obtain ⟨q4, h4⟩ : ∃ q, (y - 1) / 4 = q := ⟨_, rfl⟩
  obtain ⟨q1, hq1⟩ : ∃ q, (y - 1) / 100 = q := ⟨_, rfl⟩
  obtain ⟨q0, hq0⟩ : ∃ q, (y - 1) / 400 = q := ⟨_, rfl⟩
  have H4 : Hid (∀ W, Calls Tryz.prog 118 #[.int .i64 (y - 1), .int .i64 4] W fun e w' => e = .returned (.int .i64 q4) ∧ W = w') := Lib.hid fun W => by have := floor_any (y - 1) 4 (by omega) (by omega) (by omega) (by omega) W; rw [h4] at this; exact this
  have H1 : Hid (∀ W, Calls Tryz.prog 118 #[.int .i64 (y - 1), .int .i64 100] W fun e w' => e = .returned (.int .i64 q1) ∧ W = w') := Lib.hid fun W => by have := floor_any (y - 1) 100 (by omega) (by omega) (by omega) (by omega) W; rw [hq1] at this; exact this
  have H0 : Hid (∀ W, Calls Tryz.prog 118 #[.int .i64 (y - 1), .int .i64 400] W fun e w' => e = .returned (.int .i64 q0) ∧ W = w') := Lib.hid fun W => by have := floor_any (y - 1) 400 (by omega) (by omega) (by omega) (by omega) W; rw [hq0] at this; exact this
  have b4 : -1 ≤ q4 ∧ q4 ≤ 2500 := by omega
  have b1 : -1 ≤ q1 ∧ q1 ≤ 2500 := by omega
  have b0 : -1 ≤ q0 ∧ q0 ≤ 2500 := by omega
  rw [h4, hq1, hq0] at HR
  obtain ⟨s, hs⟩ : ∃ s, sinceD y m d = s := ⟨_, rfl⟩
  rw [hs] at HR ⊢
  obtain ⟨b40, b41⟩ := b4; obtain ⟨b10, b11⟩ := b1; obtain ⟨b00, b01⟩ := b0; obtain ⟨ha0, ha1⟩ := hab
  have ht : decide (m - 3 < 0) = true := by simp; omega
  have hw1 : m - 3 + 12 = m + 9 := by omega
  clear hs h4 hq1 hq0 ha hm
  go_enter Tryz.func75, Tryz.ntmps75
  go_wp2_with fail
  refine (H4.out _).mono ?_; rintro e w1 ⟨rfl, rfl⟩
  go_wp2_with fail
  refine (H1.out _).mono ?_; rintro e w1 ⟨rfl, rfl⟩
  go_wp2_with fail
  refine (H0.out _).mono ?_; rintro e w1 ⟨rfl, rfl⟩
  go_wp2_with fail
  refine (HA.out _).mono ?_; rintro e w1 ⟨rfl, rfl⟩
  go_wp2_with fail
  go_ret
  exact ⟨ret_i HR.out, rfl⟩
set_option maxRecDepth 100000 in
set_option maxHeartbeats 4000000 in
theorem since_hi (y m d : Int) (hy0 : 0 ≤ y) (hy1 : y ≤ 9999) (hm0 : 1 ≤ m) (hm1 : m ≤ 12) (hd0 : 1 ≤ d) (hd1 : d ≤ 31) (hm : ¬ m < 3) (w : World) :
    Calls Tryz.prog 75 #[.int .i64 y, .int .i64 m, .int .i64 d] w fun e w' => e = .returned (.int .i64 (sinceD y m d)) ∧ w = w' := by
  have HR : Hid (365 * y + y / 4 - y / 100 + y / 400 + aheadD (m - 3) + d - 1 = sinceD y m d) := Lib.hid (by unfold sinceD; rw [if_neg hm])
  obtain ⟨a, ha⟩ : ∃ a, aheadD (m - 3) = a := ⟨_, rfl⟩
  have hab := aheadD_bd (m - 3)
  rw [ha] at hab HR
  have HA : Hid (∀ W, Calls Tryz.prog 119 #[.int .i64 (m - 3)] W fun e w' => e = .returned (.int .i64 a) ∧ W = w') := Lib.hid fun W => by have := ahead_any (m - 3) (by omega) (by omega) W; rw [ha] at this; exact this
  obtain ⟨q4, h4⟩ : ∃ q, y / 4 = q := ⟨_, rfl⟩
  obtain ⟨q1, hq1⟩ : ∃ q, y / 100 = q := ⟨_, rfl⟩
  obtain ⟨q0, hq0⟩ : ∃ q, y / 400 = q := ⟨_, rfl⟩
  have H4 : Hid (∀ W, Calls Tryz.prog 118 #[.int .i64 y, .int .i64 4] W fun e w' => e = .returned (.int .i64 q4) ∧ W = w') := Lib.hid fun W => by have := floor_any y 4 (by omega) (by omega) (by omega) (by omega) W; rw [h4] at this; exact this
  have H1 : Hid (∀ W, Calls Tryz.prog 118 #[.int .i64 y, .int .i64 100] W fun e w' => e = .returned (.int .i64 q1) ∧ W = w') := Lib.hid fun W => by have := floor_any y 100 (by omega) (by omega) (by omega) (by omega) W; rw [hq1] at this; exact this
  have H0 : Hid (∀ W, Calls Tryz.prog 118 #[.int .i64 y, .int .i64 400] W fun e w' => e = .returned (.int .i64 q0) ∧ W = w') := Lib.hid fun W => by have := floor_any y 400 (by omega) (by omega) (by omega) (by omega) W; rw [hq0] at this; exact this
  have b4 : -1 ≤ q4 ∧ q4 ≤ 2500 := by omega
  have b1 : -1 ≤ q1 ∧ q1 ≤ 2500 := by omega
  have b0 : -1 ≤ q0 ∧ q0 ≤ 2500 := by omega
  rw [h4, hq1, hq0] at HR
  obtain ⟨s, hs⟩ : ∃ s, sinceD y m d = s := ⟨_, rfl⟩
  rw [hs] at HR ⊢
  obtain ⟨b40, b41⟩ := b4; obtain ⟨b10, b11⟩ := b1; obtain ⟨b00, b01⟩ := b0; obtain ⟨ha0, ha1⟩ := hab
  have ht : decide (m - 3 < 0) = false := by simp; omega
  have hw1 : m - 3 + 12 = m + 9 := by omega
  clear hs h4 hq1 hq0 ha hm
  go_enter Tryz.func75, Tryz.ntmps75
  go_wp2_with fail
  refine (H4.out _).mono ?_; rintro e w1 ⟨rfl, rfl⟩
  go_wp2_with fail
  refine (H1.out _).mono ?_; rintro e w1 ⟨rfl, rfl⟩
  go_wp2_with fail
  refine (H0.out _).mono ?_; rintro e w1 ⟨rfl, rfl⟩
  go_wp2_with fail
  refine (HA.out _).mono ?_; rintro e w1 ⟨rfl, rfl⟩
  go_wp2_with fail
  go_ret
  exact ⟨ret_i HR.out, rfl⟩
theorem since_any (y m d : Int) (hy0 : 0 ≤ y) (hy1 : y ≤ 9999) (hm0 : 1 ≤ m) (hm1 : m ≤ 12) (hd0 : 1 ≤ d) (hd1 : d ≤ 31) (w : World) :
    Calls Tryz.prog 75 #[.int .i64 y, .int .i64 m, .int .i64 d] w fun e w' => e = .returned (.int .i64 (sinceD y m d)) ∧ w = w' := by
  by_cases hm : m < 3
  · exact since_lo y m d hy0 hy1 hm0 hm1 hd0 hd1 hm w
  · exact since_hi y m d hy0 hy1 hm0 hm1 hd0 hd1 hm w
theorem since_bd (y m d : Int) (hy0 : 0 ≤ y) (hy1 : y ≤ 9999) (hd0 : 1 ≤ d) (hd1 : d ≤ 31) : -1000 ≤ sinceD y m d ∧ sinceD y m d ≤ 4000000 := by
  have h1 := aheadD_bd (m + 9)
  have h2 := aheadD_bd (m - 3)
  unfold sinceD
  split <;> omega
theorem ret_i3 {a b c a' b' c' : Int} (h1 : a = a') (h2 : b = b') (h3 : c = c') : Ending.returned (.tuple #[.int .i64 a, .int .i64 b, .int .i64 c]) = .returned (.tuple #[.int .i64 a', .int .i64 b', .int .i64 c']) := by rw [h1, h2, h3]
set_option maxRecDepth 100000 in
set_option maxHeartbeats 4000000 in
theorem date_any (n : Int) (hn0 : -1000 ≤ n) (hn1 : n ≤ 4000000) (w : World) :
    Calls Tryz.prog 74 #[.int .i64 n] w fun e w' => e = .returned (.tuple #[.int .i64 (dateY n), .int .i64 (dateM n), .int .i64 (dateDD n)]) ∧ w = w' := by
  obtain ⟨era, hera⟩ : ∃ q, n / 146097 = q := ⟨_, rfl⟩
  have hf : Hid (∀ W, Calls Tryz.prog 118 #[.int .i64 n, .int .i64 146097] W fun e w' => e = .returned (.int .i64 era) ∧ W = w') := Lib.hid fun W => by have := floor_any n 146097 (by omega) (by omega) (by omega) (by omega) W; rw [hera] at this; exact this
  have he0 : -1 ≤ era ∧ era ≤ 28 := by omega
  obtain ⟨r, hr⟩ : ∃ r, n - era * 146097 = r := ⟨_, rfl⟩
  have hrr : eraR n = r := by unfold eraR; rw [hera, hr]
  have hrb := eraR_bd n
  rw [hrr] at hrb
  obtain ⟨hr0, hr1⟩ := hrb
  obtain ⟨y, hy⟩ : ∃ y, (r - r / 1460 + r / 36524 - r / 146096) / 365 = y := ⟨_, rfl⟩
  have hyy : eraY r = y := hy
  have hyb := eraY_bd r hr0 hr1
  rw [hyy] at hyb
  obtain ⟨hy0, hy1⟩ := hyb
  obtain ⟨t, ht⟩ : ∃ t, r - (365 * y + y / 4 - y / 100) = t := ⟨_, rfl⟩
  have htt : eraD r = t := by unfold eraD; rw [hyy, ht]
  have htb := eraD_bd r hr0 hr1
  rw [htt] at htb
  obtain ⟨ht0, ht1⟩ := htb
  have H1 := Lib.hid (And.intro hrr (And.intro hyy (And.intro htt hera)))
  obtain ⟨he1, he2⟩ := he0
  have e1 : n - era * 146097 = r := hr
  have e2 : (r - r / 1460 + r / 36524 - r / 146096) / 365 = y := hy
  have e3 : r - (365 * y + y / 4 - y / 100) = t := ht
  have q1 : 0 ≤ r / 1460 ∧ r / 1460 ≤ 101 := by omega
  have q2 : 0 ≤ r / 36524 ∧ r / 36524 ≤ 5 := by omega
  have q3 : 0 ≤ r / 146096 ∧ r / 146096 ≤ 1 := by omega
  obtain ⟨q10, q11⟩ := q1; obtain ⟨q20, q21⟩ := q2; obtain ⟨q30, q31⟩ := q3
  have s1 : 0 ≤ r - r / 1460 + r / 36524 - r / 146096 := by omega
  have s2 : -1000000 ≤ era * 146097 ∧ era * 146097 ≤ 5000000 := by omega
  have hrw := hrr; have hyw := hyy
  clear hrr hyy htt hera hr hy ht hrw hyw
  go_enter Tryz.func74, Tryz.ntmps74
  go_wp2_with fail
  refine (hf.out _).mono ?_; rintro e w1 ⟨rfl, rfl⟩
  go_wp2_with fail
  try simp only [e1, e2, e3]
  go_loop [3] (fun m => ∃ k : Int, m = .int .i64 k ∧ 0 ≤ k ∧ k ≤ 11 ∧ Hid (monthD t ≤ k)) (fun m => (intOf m).toNat)
  case atStart => exact ⟨11, rfl, by omega, by omega, Lib.hid (monthD_bd t).2⟩
  case round =>
    obtain ⟨k, rfl, hk0, hk1, HK⟩ := hrel
    obtain ⟨a, ha⟩ : ∃ a, aheadD k = a := ⟨_, rfl⟩
    have hab := aheadD_bd k
    rw [ha] at hab
    have HA : Hid (∀ W, Calls Tryz.prog 119 #[.int .i64 k] W fun e w' => e = .returned (.int .i64 a) ∧ W = w') := Lib.hid fun W => by have := ahead_any k hk0 hk1 W; rw [ha] at this; exact this
    by_cases hgt : t < a
    · have HD := month_down t k ht0 HK.out hk1 (by rw [ha]; exact hgt)
      obtain ⟨hd1, hd2⟩ := HD
      have HD1 := Lib.hid hd1
      have hg : decide (t < a) = true := by simpa using hgt
      clear hd1 hgt ha
      go_wp2_with fail
      refine (HA.out _).mono ?_; rintro e w1 ⟨rfl, rfl⟩
      go_wp2_with fail
      go_round
      case rel => exact ⟨k - 1, rfl, by omega, by omega, HD1⟩
      case measure => simp [intOf]; omega
    · have hm := month_done t k ht0 HK.out hk1 (by rw [ha]; omega)
      have hg : decide (t < a) = false := by simpa using hgt
      have HM := Lib.hid (And.intro hm (And.intro ha H1))
      clear hm ha hgt
      by_cases h9 : 9 < k
      · have h12 : decide (12 < k + 3) = true := by simp; omega
        have HF := Lib.hid h9
        clear h9
        go_wp2_with fail
        refine (HA.out _).mono ?_; rintro e w1 ⟨rfl, rfl⟩
        go_wp2_with fail
        refine (HA.out _).mono ?_; rintro e w1 ⟨rfl, rfl⟩
        go_wp2_with fail
        go_returns
        obtain ⟨hm, ha, hh⟩ := HM.out
        obtain ⟨hrr, hyy, htt, hera⟩ := hh.out
        have h9 := HF.out
        refine ⟨ret_i3 ?_ ?_ ?_, rfl⟩
        · unfold dateY; rw [hrr, hyy, htt, hera, ← hm, if_pos (by omega)]
        · unfold dateM; rw [hrr, htt, ← hm, if_pos (by omega)]
        · unfold dateDD; rw [hrr, htt, ← hm, ha]
      · have h12 : decide (12 < k + 3) = false := by simp; omega
        have HF := Lib.hid h9
        clear h9
        go_wp2_with fail
        refine (HA.out _).mono ?_; rintro e w1 ⟨rfl, rfl⟩
        go_wp2_with fail
        refine (HA.out _).mono ?_; rintro e w1 ⟨rfl, rfl⟩
        go_wp2_with fail
        go_returns
        obtain ⟨hm, ha, hh⟩ := HM.out
        obtain ⟨hrr, hyy, htt, hera⟩ := hh.out
        have h9 := HF.out
        refine ⟨ret_i3 ?_ ?_ ?_, rfl⟩
        · unfold dateY; rw [hrr, hyy, htt, hera, ← hm, if_neg (by omega)]; omega
        · unfold dateM; rw [hrr, htt, ← hm, if_neg (by omega)]
        · unfold dateDD; rw [hrr, htt, ← hm, ha]
end Go.Proofs.YtjhgiojmlkeccaaGreatDoor
namespace Go.Proofs.YtjhgiojmlkeccaaGreatDoor
open Go.RowKit Go.Shelf
def dchk (s n : Int) : Int := if 0 ≤ s ∧ s ≤ 315569519999 ∧ 0 ≤ n ∧ n ≤ 999999999 then 0 else 120
set_option maxRecDepth 100000 in
set_option maxHeartbeats 4000000 in
theorem dcheck_any (s n : Int) (w : World) :
    Calls Tryz.prog 76 #[.agg #[.int .i64 s, .int .i64 n]] w fun e w' => e = .returned (.int .i64 (dchk s n)) ∧ Below w.heap.size w w' := by
  by_cases h1 : s < 0
  · have e : dchk s n = 120 := if_neg (by omega)
    rw [e]
    have g1 : decide (s < 0) = true := by simpa using h1
    go_enter Tryz.func76, Tryz.ntmps76
    go_wp2_with fail
    go_ret
    exact ⟨rfl, by go_grown⟩
  by_cases h2 : 315569519999 < s
  · have e : dchk s n = 120 := if_neg (by omega)
    rw [e]
    have g1 : decide (s < 0) = false := by simpa using h1
    have g2 : decide (315569519999 < s) = true := by simpa using h2
    go_enter Tryz.func76, Tryz.ntmps76
    go_wp2_with fail
    go_ret
    exact ⟨rfl, by go_grown⟩
  by_cases h3 : n < 0
  · have e : dchk s n = 120 := if_neg (by omega)
    rw [e]
    have g1 : decide (s < 0) = false := by simpa using h1
    have g2 : decide (315569519999 < s) = false := by simpa using h2
    have g3 : decide (n < 0) = true := by simpa using h3
    go_enter Tryz.func76, Tryz.ntmps76
    go_wp2_with fail
    go_ret
    exact ⟨rfl, by go_grown⟩
  by_cases h4 : 999999999 < n
  · have e : dchk s n = 120 := if_neg (by omega)
    rw [e]
    have g1 : decide (s < 0) = false := by simpa using h1
    have g2 : decide (315569519999 < s) = false := by simpa using h2
    have g3 : decide (n < 0) = false := by simpa using h3
    have g4 : decide (999999999 < n) = true := by simpa using h4
    go_enter Tryz.func76, Tryz.ntmps76
    go_wp2_with fail
    go_ret
    exact ⟨rfl, by go_grown⟩
  · have e : dchk s n = 0 := if_pos (by omega)
    rw [e]
    have g1 : decide (s < 0) = false := by simpa using h1
    have g2 : decide (315569519999 < s) = false := by simpa using h2
    have g3 : decide (n < 0) = false := by simpa using h3
    have g4 : decide (999999999 < n) = false := by simpa using h4
    go_enter Tryz.func76, Tryz.ntmps76
    go_wp2_with fail
    go_ret
    exact ⟨rfl, by go_grown⟩
set_option maxRecDepth 100000 in
set_option maxHeartbeats 4000000 in
theorem ddate_no (s n : Int) (w : World) (HC : Hid (DoesU w 76 #[.agg #[.int .i64 s, .int .i64 n]] (.int .i64 120))) :
    Calls Tryz.prog 77 #[.agg #[.int .i64 s, .int .i64 n]] w fun e w' => e = .returned (.tuple #[.int .i64 0, .int .i64 0, .int .i64 0, .int .i64 120]) ∧ Below w.heap.size w w' := by
  go_enter Tryz.func77, Tryz.ntmps77
  go_wp2_with fail
  refine (HC.out _ (by first | exact Below.refl _ _ | (go_grown; done))).mono ?_; rintro e w1 ⟨rfl, hb⟩
  have hh0 : w1.heap[w.heap.size]? = some (.cells #[.int .i64 s, .int .i64 n] 84 (0, 0)) := (hb.block _ (by first | omega | (simp; done) | (simp; omega))).trans (heap_new _ _ _ (by first | rfl | simp))
  have hbw1 : Below w.heap.size w w1 := (show Below w.heap.size w _ by first | exact Below.refl _ _ | (go_grown; done)).trans (hb.mono (by first | omega | (simp; done) | (simp; omega)))
  clear hb
  have HH0_1 := Lib.hid hh0
  have lt0 := heap_lt hh0
  have c0_0 : w1.cell? ⟨w.heap.size, 0, none⟩ = some (.int .i64 s) := by rw [Lib.cell_of_heap hh0]; rfl
  have f0_0 : w1.frozen? ⟨w.heap.size, 0, none⟩ = false := Lib.frozen_of_heap hh0 0
  have c0_1 : w1.cell? ⟨w.heap.size, 1, none⟩ = some (.int .i64 n) := by rw [Lib.cell_of_heap hh0]; rfl
  have f0_1 : w1.frozen? ⟨w.heap.size, 1, none⟩ = false := Lib.frozen_of_heap hh0 1
  clear hh0
  have sz1 := hbw1.size
  have HW1 := Lib.hid hbw1
  go_wp2_with fail
  go_returns
  exact ⟨rfl, by first | exact HW1.out | (go_grown; done)⟩
set_option maxRecDepth 100000 in
set_option maxHeartbeats 4000000 in
theorem ddate_go (s n y m d : Int) (hs0 : 0 ≤ s) (hs1 : s ≤ 315569519999) (w : World) (HC : Hid (DoesU w 76 #[.agg #[.int .i64 s, .int .i64 n]] (.int .i64 0))) (HD : Hid (DoesU w 74 #[.int .i64 (s / 86400 + -60)] (.tuple #[.int .i64 y, .int .i64 m, .int .i64 d]))) :
    Calls Tryz.prog 77 #[.agg #[.int .i64 s, .int .i64 n]] w fun e w' => e = .returned (.tuple #[.int .i64 y, .int .i64 m, .int .i64 d, .int .i64 0]) ∧ Below w.heap.size w w' := by
  go_enter Tryz.func77, Tryz.ntmps77
  go_wp2_with fail
  refine (HC.out _ (by first | exact Below.refl _ _ | (go_grown; done))).mono ?_; rintro e w1 ⟨rfl, hb⟩
  have hh0 : w1.heap[w.heap.size]? = some (.cells #[.int .i64 s, .int .i64 n] 84 (0, 0)) := (hb.block _ (by first | omega | (simp; done) | (simp; omega))).trans (heap_new _ _ _ (by first | rfl | simp))
  have hbw1 : Below w.heap.size w w1 := (show Below w.heap.size w _ by first | exact Below.refl _ _ | (go_grown; done)).trans (hb.mono (by first | omega | (simp; done) | (simp; omega)))
  clear hb
  have HH0_1 := Lib.hid hh0
  have lt0 := heap_lt hh0
  have c0_0 : w1.cell? ⟨w.heap.size, 0, none⟩ = some (.int .i64 s) := by rw [Lib.cell_of_heap hh0]; rfl
  have f0_0 : w1.frozen? ⟨w.heap.size, 0, none⟩ = false := Lib.frozen_of_heap hh0 0
  have c0_1 : w1.cell? ⟨w.heap.size, 1, none⟩ = some (.int .i64 n) := by rw [Lib.cell_of_heap hh0]; rfl
  have f0_1 : w1.frozen? ⟨w.heap.size, 1, none⟩ = false := Lib.frozen_of_heap hh0 1
  clear hh0
  have sz1 := hbw1.size
  have HW1 := Lib.hid hbw1
  go_wp2_with fail
  refine (HD.out _ (by first | exact HW1.out | exact HW1.out.trans ⟨rfl, rfl, rfl, Nat.le_refl _, fun _ _ => rfl⟩ | (go_grown; done))).mono ?_; rintro e w2 ⟨rfl, hb⟩
  have hv0 := HH0_1.out
  have hh0 : w2.heap[w.heap.size]? = some (.cells #[.int .i64 s, .int .i64 n] 84 (0, 0)) := (hb.block _ (heap_lt hv0)).trans hv0
  clear hv0
  have hbw2 : Below w.heap.size w w2 := (show Below w.heap.size w _ by first | exact HW1.out.trans ⟨rfl, rfl, rfl, Nat.le_refl _, fun _ _ => rfl⟩ | exact HW1.out | (go_grown; done)).trans (hb.mono (by first | omega | (simp; done) | (simp; omega)))
  clear hb lt0 c0_0 f0_0 c0_1 f0_1 hbw1
  have HH0_2 := Lib.hid hh0
  have lt0 := heap_lt hh0
  have c0_0 : w2.cell? ⟨w.heap.size, 0, none⟩ = some (.int .i64 s) := by rw [Lib.cell_of_heap hh0]; rfl
  have f0_0 : w2.frozen? ⟨w.heap.size, 0, none⟩ = false := Lib.frozen_of_heap hh0 0
  have c0_1 : w2.cell? ⟨w.heap.size, 1, none⟩ = some (.int .i64 n) := by rw [Lib.cell_of_heap hh0]; rfl
  have f0_1 : w2.frozen? ⟨w.heap.size, 1, none⟩ = false := Lib.frozen_of_heap hh0 1
  clear hh0
  have sz2 := hbw2.size
  have HW2 := Lib.hid hbw2
  go_wp2_with fail
  go_returns
  exact ⟨rfl, by first | exact HW2.out | (go_grown; done)⟩
end Go.Proofs.YtjhgiojmlkeccaaGreatDoor
namespace Go.Proofs.YtjhgiojmlkeccaaGreatDoor
open Go.RowKit Go.Shelf
/-- Each block that was there stands as it stood, but for one. -/
def KB (tb : Nat) (w w' : World) : Prop := Below tb w w' ∧ ∀ b, b < w.heap.size → b ≠ tb → w'.heap[b]? = w.heap[b]?
theorem KB.refl (tb : Nat) (w : World) : KB tb w w := ⟨Below.refl _ _, fun _ _ _ => rfl⟩
theorem KB.trans {tb : Nat} {w w' w'' : World} (h : KB tb w w') (h' : KB tb w' w'') : KB tb w w'' := ⟨h.1.trans h'.1, fun b hb hn => (h'.2 b (Nat.lt_of_lt_of_le hb h.1.size) hn).trans (h.2 b hb hn)⟩
theorem KB.set {tb : Nat} {w w' : World} (h : KB tb w w') (i : Nat) (v : Value) : KB tb w (w'.setCell ⟨tb, i, none⟩ v) := ⟨h.1.setCell (p := ⟨tb, i, none⟩) (Nat.le_refl tb) v, fun b hb hn => by rw [Below.heap_setCell _ _ _ _ hn]; exact h.2 b hb hn⟩
theorem KB.below {tb : Nat} {w w' w'' : World} (h : KB tb w w') (hb : Below w'.heap.size w' w'') (hs : tb < w'.heap.size) : KB tb w w'' := ⟨h.1.trans (hb.mono (Nat.le_of_lt hs)), fun b hb' hn => (hb.block b (Nat.lt_of_lt_of_le hb' h.1.size)).trans (h.2 b hb' hn)⟩
def TXc (tb : Nat) (s : ByteArray) (b : Bool) (W : World) : Prop := W.heap[tb]? = some (.cells #[.string s, .bool b] 116 (0, 0))
theorem TXc.c0 {tb : Nat} {s : ByteArray} {b : Bool} {W : World} (h : TXc tb s b W) : W.cell? ⟨tb, 0, none⟩ = some (.string s) := (Lib.cell_of_heap h 0).trans rfl
theorem TXc.c1 {tb : Nat} {s : ByteArray} {b : Bool} {W : World} (h : TXc tb s b W) : W.cell? ⟨tb, 1, none⟩ = some (.bool b) := (Lib.cell_of_heap h 1).trans rfl
theorem TXc.f {tb : Nat} {s : ByteArray} {b : Bool} {W : World} (h : TXc tb s b W) (i : Nat) : W.frozen? ⟨tb, i, none⟩ = false := Lib.frozen_of_heap h i
theorem TXc.lt {tb : Nat} {s : ByteArray} {b : Bool} {W : World} (h : TXc tb s b W) : tb < W.heap.size := heap_lt h
theorem TXc.setS {tb : Nat} {s : ByteArray} {b : Bool} {W : World} (h : TXc tb s b W) (s' : ByteArray) : TXc tb s' b (W.setCell ⟨tb, 0, none⟩ (.string s')) := on_pset h _ rfl
theorem TXc.setB {tb : Nat} {s : ByteArray} {b : Bool} {W : World} (h : TXc tb s b W) (b' : Bool) : TXc tb s b' (W.setCell ⟨tb, 1, none⟩ (.bool b')) := on_pset h _ rfl
theorem TXc.kept {tb : Nat} {s : ByteArray} {b : Bool} {W W' : World} (h : TXc tb s b W) (hb : Below W.heap.size W W') : TXc tb s b W' := (hb.block tb (heap_lt h)).trans h
set_option maxRecDepth 100000 in
set_option maxHeartbeats 4000000 in
theorem dmark_nil (marks : ByteArray) (tb : Nat) (b : Bool) (w : World) (hh : TXc tb ⟨#[]⟩ b w) :
    Calls Tryz.prog 72 #[.pointer (some ⟨tb, 0, none⟩), .string marks] w fun e w' => e = .returned (.int .u8 0) ∧ TXc tb ⟨#[]⟩ true w' ∧ KB tb w w' := by
  have c0 := hh.c0
  have c1 := hh.c1
  have f0 := hh.f 0
  have f1 := hh.f 1
  have HH := Lib.hid hh
  clear hh
  go_enter Tryz.func72, Tryz.ntmps72
  go_wp2_with fail
  go_ret
  exact ⟨rfl, HH.out.setB true, (KB.refl _ _).set 1 _⟩
set_option maxRecDepth 100000 in
set_option maxHeartbeats 4000000 in
theorem dmark_no (marks s : ByteArray) (hp : 0 < s.size) (hne : ¬ s.toList = []) (hne2 : s.toList.isEmpty = false) (hs : s.size ≤ 1000000) (x : Int) (hx : x < 0) (tb : Nat) (b : Bool) (w : World) (hh : TXc tb s b w) (HX : Hid (∀ W, Calls Tryz.prog 117 #[.string marks, .int .u8 ((s[0]).toNat : Int)] W fun e w' => e = .returned (.int .i64 x) ∧ W = w')) :
    Calls Tryz.prog 72 #[.pointer (some ⟨tb, 0, none⟩), .string marks] w fun e w' => e = .returned (.int .u8 0) ∧ TXc tb s true w' ∧ KB tb w w' := by
  have hx2 : decide (x < 0) = true := by simpa using hx
  have c0 := hh.c0
  have c1 := hh.c1
  have f0 := hh.f 0
  have f1 := hh.f 1
  have HH := Lib.hid hh
  clear hh
  go_enter Tryz.func72, Tryz.ntmps72
  go_wp2_with fail
  refine (HX.out _).mono ?_; rintro e w1 ⟨rfl, rfl⟩
  go_wp2_with fail
  go_ret
  exact ⟨rfl, HH.out.setB true, (KB.refl _ _).set 1 _⟩
set_option maxRecDepth 100000 in
set_option maxHeartbeats 4000000 in
theorem dmark_yes (marks s s' : ByteArray) (hp : 0 < s.size) (hne : ¬ s.toList = []) (hne2 : s.toList.isEmpty = false) (hs : s.size ≤ 1000000) (hs' : s.extract 1 s.size = s') (x : Int) (hx : 0 ≤ x) (tb : Nat) (b : Bool) (w : World) (hh : TXc tb s b w) (HX : Hid (∀ W, Calls Tryz.prog 117 #[.string marks, .int .u8 ((s[0]).toNat : Int)] W fun e w' => e = .returned (.int .i64 x) ∧ W = w')) :
    Calls Tryz.prog 72 #[.pointer (some ⟨tb, 0, none⟩), .string marks] w fun e w' => e = .returned (.int .u8 ((s[0]).toNat : Int)) ∧ TXc tb s' b w' ∧ KB tb w w' := by
  have hx2 : decide (x < 0) = false := by simpa using hx
  have c0 := hh.c0
  have c1 := hh.c1
  have f0 := hh.f 0
  have f1 := hh.f 1
  have HH := Lib.hid hh
  clear hh
  go_enter Tryz.func72, Tryz.ntmps72
  go_wp2_with fail
  refine (HX.out _).mono ?_; rintro e w1 ⟨rfl, rfl⟩
  go_wp2_with fail
  go_ret
  exact ⟨rfl, HH.out.setS s', (KB.refl _ _).set 0 _⟩
set_option maxRecDepth 100000 in
set_option maxHeartbeats 4000000 in
theorem dnum_short (many : Nat) (low high : Int) (s : ByteArray) (hs : s.size < many) (hm : many ≤ 9) (tb : Nat) (b : Bool) (w : World) (hh : TXc tb s b w) :
    Calls Tryz.prog 71 #[.pointer (some ⟨tb, 0, none⟩), .int .i64 (many : Nat), .int .i64 low, .int .i64 high] w fun e w' => e = .returned (.int .i64 low) ∧ TXc tb s true w' ∧ KB tb w w' := by
  have c0 := hh.c0
  have c1 := hh.c1
  have f0 := hh.f 0
  have f1 := hh.f 1
  have HH := Lib.hid hh
  clear hh
  go_enter Tryz.func71, Tryz.ntmps71
  go_wp2_with fail
  go_ret
  exact ⟨rfl, HH.out.setB true, (KB.refl _ _).set 1 _⟩
def badU (l : List UInt8) (b : Bool) : Bool := b || l.any fun c => !isDig c
theorem badU_snoc (l : List UInt8) (c : UInt8) (b : Bool) : badU (l ++ [c]) b = (badU l b || !isDig c) := by
  unfold badU; rw [List.any_append, List.any_cons, List.any_nil, Bool.or_false, Bool.or_assoc]
theorem valU_snoc (l : List UInt8) (c : UInt8) : valU (l ++ [c]) = valU l * 10 + ((c.toNat : Int) - 48) % 256 := by
  unfold valU; rw [List.foldl_append]; rfl
theorem take_snoc_d (s : ByteArray) (k : Nat) (h : k < s.size) : s.data.toList.take (k + 1) = s.data.toList.take k ++ [s[k]] := by
  rw [List.take_succ_eq_append_getElem (by simpa using h)]; rfl
set_option maxRecDepth 100000 in
set_option maxHeartbeats 4000000 in
theorem dnum_go (many : Nat) (low high : Int) (s x s' : ByteArray) (hs : many ≤ s.size) (hm : many ≤ 9) (hsz : s.size ≤ 1000000) (hx : s.extract 0 many = x) (hs' : s.extract many s.size = s') (n : Int) (hn : valU x.data.toList = n)
    (b1 b2 b3 : Bool) (tb : Nat) (b : Bool) (w : World) (hh : TXc tb s b w) (hb1 : badU x.data.toList b = b1) (hlo : decide (n < low) = b2) (hhi : decide (high < n) = b3) :
    Calls Tryz.prog 71 #[.pointer (some ⟨tb, 0, none⟩), .int .i64 (many : Nat), .int .i64 low, .int .i64 high] w fun e w' => e = .returned (.int .i64 (if b1 || b2 || b3 then low else n)) ∧ TXc tb s' (b1 || b2 || b3) w' ∧ KB tb w w' := by
  have hxs : x.size = many := by rw [← hx, ByteArray.size_extract]; omega
  have kc := run_bytes_of_string (P := Tryz.prog) w 9 131 5 x Tryz.underlying9 Tryz.underlying131 Tryz.underlying5
  obtain ⟨gc, hgc⟩ : ∃ gc, grownCap w x.size 0 5 = gc := ⟨_, rfl⟩
  rw [hgc] at kc
  obtain ⟨w1, hw1⟩ : ∃ w1 : World, w1 = w.drew.alloc (.cells (bytesRow x gc) 5 ((bytesRow x gc).size, (bytesRow x gc).size + 1)) := ⟨_, rfl⟩
  rw [← hw1, hxs] at kc
  have HROW : Hid (∀ (j : Nat) (h : j < x.size), w1.cell? ⟨w.heap.size, j, none⟩ = some (.int .u8 x[j].toNat)) := Lib.hid (by
    intro j hj
    rw [hw1]
    change (w.alloc _).cell? _ = _
    rw [World.cell?_alloc_mark]
    exact bytesRow_at x _ j hj)
  have HT1 : Hid (TXc tb s b w1) := Lib.hid (by rw [hw1]; exact heap_old (W := w.drew) hh)
  have hb01 : Below w.heap.size w w1 := by rw [hw1]; exact ((Below.refl _ _).drew).alloc (Nat.le_refl _) _
  have HK1 : Hid (KB tb w w1) := Lib.hid ((KB.refl tb w).below hb01 hh.lt)
  have HS1 := Lib.hid hs'
  have HN := Lib.hid hn
  have HB1 := Lib.hid hb1
  have HL := Lib.hid (And.intro hlo hhi)
  have HXS := Lib.hid hxs
  have hlt := hh.lt
  have hsz1 : w.heap.size ≤ w1.heap.size := hb01.size
  have c0 := hh.c0
  have c1 := hh.c1
  have f0 := hh.f 0
  have f1 := hh.f 1
  have HH := Lib.hid hh
  clear hh
  clear hs' hn hb1 hlo hhi hxs hgc hw1 hb01
  go_enter Tryz.func71, Tryz.ntmps71
  go_wp2_with fail
  clear kc c0 c1 f0 f1
  go_loopw [8, 30] (fun n i wr => ∃ k : Nat, k ≤ many ∧ i = .int .i64 k ∧ n = .int .i64 (valU (x.data.toList.take k)) ∧ Hid (TXc tb s (badU (x.data.toList.take k) b) wr) ∧ Hid (KB tb w1 wr)) (fun n i wr => many - (intOf i).toNat)
  case atStart => exact ⟨0, Nat.zero_le _, rfl, rfl, Lib.hid (by have := HT1.out; simpa [badU] using this), Lib.hid (KB.refl _ _)⟩
  case round =>
    rename World => wr
    obtain ⟨k, hk, rfl, rfl, HT, HK⟩ := hrel
    by_cases hlk : k < many
    · have hkx : k < x.size := by rw [HXS.out]; exact hlk
      have hc : wr.cell? ⟨w.heap.size, k, none⟩ = some (.int .u8 x[k].toNat) := by
        have h1 := HROW.out k hkx
        have h2 := HK.out.2 w.heap.size (lt_of_cell h1) (by omega)
        unfold World.cell? at h1 ⊢
        simp only at h1 ⊢
        rw [h2]; exact h1
      obtain ⟨cc, hcc⟩ : ∃ c : UInt8, x[k] = c := ⟨_, rfl⟩
      have HV : Hid (valU (x.data.toList.take (k + 1)) = valU (x.data.toList.take k) * 10 + ((cc.toNat : Int) - 48) % 256) := Lib.hid (by rw [take_snoc_d x k hkx, hcc, valU_snoc])
      have HBU : Hid (badU (x.data.toList.take (k + 1)) b = (badU (x.data.toList.take k) b || !isDig cc)) := Lib.hid (by rw [take_snoc_d x k hkx, hcc, badU_snoc])
      rw [hcc] at hc
      clear hcc
      have hcb : cc.toNat < 256 := UInt8.toNat_lt _
      obtain ⟨c, hce⟩ : ∃ c : Nat, cc.toNat = c := ⟨_, rfl⟩
      have hdig : isDig cc = decide (48 ≤ c ∧ c ≤ 57) := by unfold isDig; rw [hce]
      rw [hce] at hc hcb HV
      rw [hdig] at HBU
      clear hce hdig
      have hvb := valU_bd (x.data.toList.take k)
      have hle : (x.data.toList.take k).length ≤ 8 := by rw [List.length_take]; omega
      have hp : (10 : Int) ^ (x.data.toList.take k).length ≤ 10 ^ 8 := by
        have : (10 : Nat) ^ (x.data.toList.take k).length ≤ 10 ^ 8 := Nat.pow_le_pow_right (by omega) hle
        exact_mod_cast this
      obtain ⟨v, hv⟩ : ∃ v, valU (x.data.toList.take k) = v := ⟨_, rfl⟩
      rw [hv] at hvb HV ⊢
      have hv0 : 0 ≤ v := hvb.1
      have hv1 : v ≤ 25600000000 := by have := hvb.2; omega
      clear hvb hp hle hv
      obtain ⟨bk, hbk⟩ : ∃ q, badU (x.data.toList.take k) b = q := ⟨_, rfl⟩
      rw [hbk] at HT HBU
      clear hbk
      have d0 := HT.out.c0
      have d1 := HT.out.c1
      have g1 := HT.out.f 1
      by_cases h48 : c < 48
      · have t1 : decide ((c : Int) < 48) = true := by simp; omega
        have hwr : IntKind.u8.wrap ((c : Int) - 48) = (c : Int) + 208 := by rw [IntKind.wrap_u8]; omega
        have HV2 : Hid (valU (x.data.toList.take (k + 1)) = v * 10 + ((c : Int) + 208)) := Lib.hid (by rw [HV.out]; omega)
        have HB2 : Hid (badU (x.data.toList.take (k + 1)) b = true) := Lib.hid (by rw [HBU.out]; have : decide (48 ≤ c ∧ c ≤ 57) = false := by simp; omega
                                                                                   rw [this]; simp)
        clear HV HBU
        cases bk
        all_goals
          go_wp2_with fail
          go_roundw
          case rel => exact ⟨k + 1, by omega, by go_num, by rw [HV2.out], Lib.hid (by rw [HB2.out]; exact HT.out.setB true), Lib.hid (HK.out.set 1 _)⟩
          case measure => simp [intOf]; omega
      · have t1 : decide ((c : Int) < 48) = false := by simp; omega
        obtain ⟨d, hd⟩ : ∃ d : Int, (c : Int) - 48 = d := ⟨_, rfl⟩
        have hd0 : 0 ≤ d := by omega
        have hd1 : d ≤ 207 := by omega
        have HV2 : Hid (valU (x.data.toList.take (k + 1)) = v * 10 + d) := Lib.hid (by rw [HV.out]; omega)
        obtain ⟨t2, ht2⟩ : ∃ t, decide (57 < (c : Int)) = t := ⟨_, rfl⟩
        have HB2 : Hid (badU (x.data.toList.take (k + 1)) b = (bk || t2)) := Lib.hid (by
          rw [HBU.out, ← ht2]
          have : (!decide (48 ≤ c ∧ c ≤ 57)) = decide (57 < (c : Int)) := by
            rw [Bool.eq_iff_iff]; simp; omega
          rw [this])
        clear HV HBU
        cases bk <;> cases t2
        all_goals
          go_wp2_with fail
          go_roundw
          case rel => exact ⟨k + 1, by omega, by go_num, by rw [HV2.out], Lib.hid (by rw [HB2.out]; exact HT.out.setB _), Lib.hid (HK.out.set 1 _)⟩
          case measure => simp [intOf]; omega
    · have hke : k = many := by omega
      subst hke
      have htk : x.data.toList.take k = x.data.toList := List.take_of_length_le (by rw [Array.length_toList]; have := HXS.out; change x.data.size ≤ k; change x.data.size = k at this; omega)
      rw [htk] at HT ⊢
      rw [HN.out] at ⊢
      rw [HB1.out] at HT
      clear htk
      have d0 := HT.out.c0
      have d1 := HT.out.c1
      have g0 := HT.out.f 0
      have g1 := HT.out.f 1
      obtain ⟨l1, l2⟩ := HL.out
      have he := HS1.out
      have HE : Hid (KB tb w ((wr.setCell ⟨tb, 0, none⟩ (.string s')).setCell ⟨tb, 1, none⟩ (.bool (b1 || b2 || b3)))) := Lib.hid (((HK1.out.trans HK.out).set 0 _).set 1 _)
      have HF : Hid (TXc tb s' (b1 || b2 || b3) ((wr.setCell ⟨tb, 0, none⟩ (.string s')).setCell ⟨tb, 1, none⟩ (.bool (b1 || b2 || b3)))) := Lib.hid ((HT.out.setS s').setB _)
      cases b1 <;> cases b2 <;> cases b3
      all_goals
        go_wp2_with fail
        go_ret
        exact ⟨rfl, HF.out, HE.out⟩
end Go.Proofs.YtjhgiojmlkeccaaGreatDoor
namespace Go.Proofs.YtjhgiojmlkeccaaGreatDoor
open Go.RowKit Go.Shelf
set_option maxRecDepth 100000 in
set_option maxHeartbeats 4000000 in
theorem dfrac_no (s r : ByteArray) (tb : Nat) (b : Bool) (w : World) (hh : TXc tb s b w) (HC : Hid (∀ W, Calls Tryz.prog 84 #[.string s, .string ⟨#[46]⟩] W fun e w' => e = .returned (.tuple #[.string r, .bool false]) ∧ W = w')) :
    Calls Tryz.prog 73 #[.pointer (some ⟨tb, 0, none⟩)] w fun e w' => e = .returned (.int .i64 0) ∧ TXc tb s b w' ∧ KB tb w w' := by
  have c0 := hh.c0
  have c1 := hh.c1
  have f0 := hh.f 0
  have f1 := hh.f 1
  have HH := Lib.hid hh
  have hlt := hh.lt
  clear hh
  go_enter Tryz.func73, Tryz.ntmps73
  go_wp2_with fail
  refine (HC.out _).mono ?_; rintro e w1 ⟨rfl, rfl⟩
  go_wp2_with fail
  go_ret
  exact ⟨rfl, HH.out, KB.refl _ _⟩
set_option maxRecDepth 100000 in
set_option maxHeartbeats 4000000 in
theorem dfrac_bad (s r y : ByteArray) (hr : r.size ≤ 1000000) (hy : y.size ≤ r.size) (k : Nat) (he : (r.size : Int) - (y.size : Int) = k) (hk : k < 1 ∨ 9 < k) (tb : Nat) (b : Bool) (w : World) (hh : TXc tb s b w) (HC : Hid (∀ W, Calls Tryz.prog 84 #[.string s, .string ⟨#[46]⟩] W fun e w' => e = .returned (.tuple #[.string r, .bool true]) ∧ W = w'))
    (HT : Hid (∀ W, Calls Tryz.prog 89 #[.string r, .string ⟨#[48, 49, 50, 51, 52, 53, 54, 55, 56, 57]⟩] W fun e w' => e = .returned (.string y) ∧ Below W.heap.size W w')) :
    Calls Tryz.prog 73 #[.pointer (some ⟨tb, 0, none⟩)] w fun e w' => e = .returned (.int .i64 0) ∧ TXc tb r true w' ∧ KB tb w w' := by
  have c0 := hh.c0
  have c1 := hh.c1
  have f0 := hh.f 0
  have f1 := hh.f 1
  have HH := Lib.hid hh
  have hlt := hh.lt
  clear hh
  obtain ⟨t, ht⟩ : ∃ t, decide ((k : Int) < 1) = t := ⟨_, rfl⟩
  have ht2 : t = false → decide (9 < (k : Int)) = true := by
    intro h; rw [h] at ht; simp at ht ⊢; omega
  clear hk
  cases t
  · have hu := ht2 rfl
    clear ht2
    go_enter Tryz.func73, Tryz.ntmps73
    go_wp2_with fail
    refine (HC.out _).mono ?_; rintro e w1 ⟨rfl, rfl⟩
    go_upto_region 5 with fail
    have HT1 : Hid (TXc tb r b (w.setCell ⟨tb, 0, none⟩ (.string r))) := Lib.hid (HH.out.setS r)
    have HK1 : Hid (KB tb w (w.setCell ⟨tb, 0, none⟩ (.string r))) := Lib.hid ((KB.refl _ _).set 0 _)
    obtain ⟨w1, hw1⟩ : ∃ w1 : World, w1 = w.setCell ⟨tb, 0, none⟩ (.string r) := ⟨_, rfl⟩
    rw [← hw1] at HT1 HK1 ⊢
    clear hw1 c0 c1 f0 f1
    go_wp2_with fail
    refine (HT.out _).mono ?_; rintro e w2 ⟨rfl, hb⟩
    have HT2 : Hid (TXc tb r b w2) := Lib.hid (HT1.out.kept hb)
    have HK2 : Hid (KB tb w w2) := Lib.hid (HK1.out.below hb HT1.out.lt)
    have c0 := HT2.out.c0
    have c1 := HT2.out.c1
    have f0 := HT2.out.f 0
    have f1 := HT2.out.f 1
    clear hb
    go_wp2_with fail
    go_ret
    exact ⟨rfl, HT2.out.setB true, HK2.out.set 1 _⟩
  · clear ht2
    go_enter Tryz.func73, Tryz.ntmps73
    go_wp2_with fail
    refine (HC.out _).mono ?_; rintro e w1 ⟨rfl, rfl⟩
    go_upto_region 5 with fail
    have HT1 : Hid (TXc tb r b (w.setCell ⟨tb, 0, none⟩ (.string r))) := Lib.hid (HH.out.setS r)
    have HK1 : Hid (KB tb w (w.setCell ⟨tb, 0, none⟩ (.string r))) := Lib.hid ((KB.refl _ _).set 0 _)
    obtain ⟨w1, hw1⟩ : ∃ w1 : World, w1 = w.setCell ⟨tb, 0, none⟩ (.string r) := ⟨_, rfl⟩
    rw [← hw1] at HT1 HK1 ⊢
    clear hw1 c0 c1 f0 f1
    go_wp2_with fail
    refine (HT.out _).mono ?_; rintro e w2 ⟨rfl, hb⟩
    have HT2 : Hid (TXc tb r b w2) := Lib.hid (HT1.out.kept hb)
    have HK2 : Hid (KB tb w w2) := Lib.hid (HK1.out.below hb HT1.out.lt)
    have c0 := HT2.out.c0
    have c1 := HT2.out.c1
    have f0 := HT2.out.f 0
    have f1 := HT2.out.f 1
    clear hb
    go_wp2_with fail
    go_ret
    exact ⟨rfl, HT2.out.setB true, HK2.out.set 1 _⟩
set_option maxRecDepth 100000 in
set_option maxHeartbeats 4000000 in
theorem dfrac_go (s r y s' : ByteArray) (hr : r.size ≤ 1000000) (hy : y.size ≤ r.size) (k : Nat) (he : (r.size : Int) - (y.size : Int) = k) (hk0 : 1 ≤ k) (hk1 : k ≤ 9) (v : Int) (hv0 : 0 ≤ v) (hv1 : v ≤ 999999999) (tb : Nat) (b b' : Bool) (w : World) (hh : TXc tb s b w) (HC : Hid (∀ W, Calls Tryz.prog 84 #[.string s, .string ⟨#[46]⟩] W fun e w' => e = .returned (.tuple #[.string r, .bool true]) ∧ W = w'))
    (HT : Hid (∀ W, Calls Tryz.prog 89 #[.string r, .string ⟨#[48, 49, 50, 51, 52, 53, 54, 55, 56, 57]⟩] W fun e w' => e = .returned (.string y) ∧ Below W.heap.size W w'))
    (HN : Hid (∀ W, TXc tb r b W → Calls Tryz.prog 71 #[.pointer (some ⟨tb, 0, none⟩), .int .i64 (k : Nat), .int .i64 0, .int .i64 999999999] W fun e w' => e = .returned (.int .i64 v) ∧ TXc tb s' b' w' ∧ KB tb W w')) :
    Calls Tryz.prog 73 #[.pointer (some ⟨tb, 0, none⟩)] w fun e w' => e = .returned (.int .i64 (v * 10 ^ (9 - k))) ∧ TXc tb s' b' w' ∧ KB tb w w' := by
  have c0 := hh.c0
  have c1 := hh.c1
  have f0 := hh.f 0
  have f1 := hh.f 1
  have HH := Lib.hid hh
  have hlt := hh.lt
  clear hh
  have t1 : decide ((k : Int) < 1) = false := by simp; omega
  have t2 : decide (9 < (k : Int)) = false := by simp; omega
  go_enter Tryz.func73, Tryz.ntmps73
  go_wp2_with fail
  refine (HC.out _).mono ?_; rintro e w1 ⟨rfl, rfl⟩
  go_upto_region 5 with fail
  have HT1 : Hid (TXc tb r b (w.setCell ⟨tb, 0, none⟩ (.string r))) := Lib.hid (HH.out.setS r)
  have HK1 : Hid (KB tb w (w.setCell ⟨tb, 0, none⟩ (.string r))) := Lib.hid ((KB.refl _ _).set 0 _)
  obtain ⟨w1, hw1⟩ : ∃ w1 : World, w1 = w.setCell ⟨tb, 0, none⟩ (.string r) := ⟨_, rfl⟩
  rw [← hw1] at HT1 HK1 ⊢
  clear hw1 c0 c1 f0 f1
  go_wp2_with fail
  refine (HT.out _).mono ?_; rintro e w2 ⟨rfl, hb⟩
  have HT2 : Hid (TXc tb r b w2) := Lib.hid (HT1.out.kept hb)
  have HK2 : Hid (KB tb w w2) := Lib.hid (HK1.out.below hb HT1.out.lt)
  have c0 := HT2.out.c0
  have c1 := HT2.out.c1
  have f0 := HT2.out.f 0
  have f1 := HT2.out.f 1
  clear hb
  go_wp2_with fail
  refine (HN.out _ HT2.out).mono ?_; rintro e w3 ⟨rfl, ht3, hk3⟩
  have HE : Hid (TXc tb s' b' w3 ∧ KB tb w w3) := Lib.hid ⟨ht3, HK2.out.trans hk3⟩
  clear ht3 hk3 c0 c1 f0 f1 he t1 t2
  go_wp2_with fail
  go_loop [2, 40] (fun n i => ∃ j : Nat, j ≤ 9 - k ∧ i = .int .i64 j ∧ n = .int .i64 (v * 10 ^ j)) (fun n i => 9 - (intOf i).toNat)
  case atStart => exact ⟨0, Nat.zero_le _, rfl, by simp⟩
  case round =>
    obtain ⟨j, hj, rfl, rfl⟩ := hrel
    by_cases hlt2 : j < 9 - k
    · have hp : (1 : Int) ≤ 10 ^ j ∧ (10 : Int) ^ j ≤ 10 ^ 8 := by
        have h1 : (10 : Nat) ^ j ≤ 10 ^ 8 := Nat.pow_le_pow_right (by omega) (by omega)
        have h2 : 1 ≤ (10 : Nat) ^ j := Nat.one_le_pow _ _ (by omega)
        exact ⟨by exact_mod_cast h2, by exact_mod_cast h1⟩
      have hm : 0 ≤ v * 10 ^ j ∧ v * 10 ^ j ≤ 99999999900000000 := by
        refine ⟨Int.mul_nonneg hv0 (by omega), ?_⟩
        have := Int.mul_le_mul hv1 hp.2 (by omega) (by omega : (0 : Int) ≤ 999999999)
        omega
      have HS : Hid (v * 10 ^ (j + 1) = v * 10 ^ j * 10) := Lib.hid (by rw [Int.pow_succ, Int.mul_assoc])
      obtain ⟨z, hz⟩ : ∃ z, v * 10 ^ j = z := ⟨_, rfl⟩
      rw [hz] at hm HS ⊢
      obtain ⟨hm0, hm1⟩ := hm
      have tl : decide ((j : Int) < 9 - (k : Int)) = true := by simp; omega
      clear hz hp
      go_wp2_with fail
      go_round
      case rel => exact ⟨j + 1, by omega, by go_num, by rw [HS.out]⟩
      case measure => simp [intOf]; omega
    · obtain rfl : j = 9 - k := by omega
      have tl : decide (((9 - k : Nat) : Int) < 9 - (k : Int)) = false := by simp; omega
      go_wp2_with fail
      go_ret
      exact ⟨rfl, HE.out.1, HE.out.2⟩
end Go.Proofs.YtjhgiojmlkeccaaGreatDoor
namespace Go.Proofs.YtjhgiojmlkeccaaGreatDoor
open Go.RowKit Go.Shelf
theorem scope_once {P : Program} {a : Act} {w : World} {Q : Exit → Act → World → Prop} {c rest : Code} (l : Nat) (hf : findLabel c l = some rest)
    (first : c.wp P (Exit.jump l (fun a w => rest.wp P (Exit.noGoto Q) a w) Q) a w) : (Code.scope c).wp P Q a w :=
  wp_scope_jumps l (fun a w => rest.wp P (Exit.noGoto Q) a w) (fun _ _ => 0) hf first fun a w hJ => wp_mono hJ fun e a w h => by
    cases e with
    | goto l' => exact h.elim
    | _ => exact h
theorem goto_jump {l : Nat} {J : Act → World → Prop} {Q : Exit → Act → World → Prop} {a : Act} {w : World} (h : J a w) : Exit.jump l J Q (.goto l) a w := ⟨rfl, h⟩
theorem jump_ret {l : Nat} {J : Act → World → Prop} {Q : Exit → Act → World → Prop} {a : Act} {w : World} : Exit.jump l J Q .ret a w = Q .ret a w := rfl
def DNum (many : Nat) (lo hi v : Int) (s : ByteArray) (b : Bool) (s' : ByteArray) (b' : Bool) : Prop := ∀ (tb : Nat) (W : World), TXc tb s b W → Calls Tryz.prog 71 #[.pointer (some ⟨tb, 0, none⟩), .int .i64 (many : Nat), .int .i64 lo, .int .i64 hi] W fun e w' => e = .returned (.int .i64 v) ∧ TXc tb s' b' w' ∧ KB tb W w'
def DMark (marks : ByteArray) (v : Int) (s : ByteArray) (b : Bool) (s' : ByteArray) (b' : Bool) : Prop := ∀ (tb : Nat) (W : World), TXc tb s b W → Calls Tryz.prog 72 #[.pointer (some ⟨tb, 0, none⟩), .string marks] W fun e w' => e = .returned (.int .u8 v) ∧ TXc tb s' b' w' ∧ KB tb W w'
def DFrac (v : Int) (s : ByteArray) (b : Bool) (s' : ByteArray) (b' : Bool) : Prop := ∀ (tb : Nat) (W : World), TXc tb s b W → Calls Tryz.prog 73 #[.pointer (some ⟨tb, 0, none⟩)] W fun e w' => e = .returned (.int .i64 v) ∧ TXc tb s' b' w' ∧ KB tb W w'
set_option maxRecDepth 100000 in
set_option maxHeartbeats 8000000 in
theorem dparse_0 (s0 s1 s2 s3 s4 s5 s6 s7 s8 s9 s10 s11 s12 sE : ByteArray) (b1 b2 b3 b4 b5 b6 b7 b8 b9 b10 b11 b12 bE : Bool) (y q1 mo q2 d q3 h q4 mi q5 se na z : Int) (hy0 : 0 ≤ y) (hy1 : y ≤ 9999) (hm0 : 1 ≤ mo) (hm1 : mo ≤ 12) (hd0 : 1 ≤ d) (hd1 : d ≤ 31) (hh0 : 0 ≤ h) (hh1 : h ≤ 23) (hi0 : 0 ≤ mi) (hi1 : mi ≤ 59) (hs0 : 0 ≤ se) (hs1 : se ≤ 59) (sd : Int) (hsd0 : -1000 ≤ sd) (hsd1 : sd ≤ 4000000) (dy dm dd ck : Int) (u1 u2 u3 u4 : Bool) (rs rn re : Int) (hu1 : (dy != y) = u1) (hu2 : (dm != mo) = u2) (hu3 : (dd != d) = u3) (hu4 : (ck == 0) = u4) (w : World) (H0 : Hid (DNum 4 0 9999 y s0 false s1 b1)) (H1 : Hid (DMark ⟨#[45]⟩ q1 s1 b1 s2 b2)) (H2 : Hid (DNum 2 1 12 mo s2 b2 s3 b3)) (H3 : Hid (DMark ⟨#[45]⟩ q2 s3 b3 s4 b4)) (H4 : Hid (DNum 2 1 31 d s4 b4 s5 b5)) (H5 : Hid (DMark ⟨#[84, 116]⟩ q3 s5 b5 s6 b6)) (H6 : Hid (DNum 2 0 23 h s6 b6 s7 b7)) (H7 : Hid (DMark ⟨#[58]⟩ q4 s7 b7 s8 b8)) (H8 : Hid (DNum 2 0 59 mi s8 b8 s9 b9)) (H9 : Hid (DMark ⟨#[58]⟩ q5 s9 b9 s10 b10)) (H10 : Hid (DNum 2 0 59 se s10 b10 s11 b11)) (H11 : Hid (DFrac na s11 b11 s12 b12)) (H12 : Hid (DMark ⟨#[90, 122, 43, 45]⟩ z s12 b12 sE bE)) (HS : Hid (∀ W, Calls Tryz.prog 75 #[.int .i64 y, .int .i64 mo, .int .i64 d] W fun e w' => e = .returned (.int .i64 sd) ∧ W = w')) (HD : Hid (∀ W, Calls Tryz.prog 74 #[.int .i64 sd] W fun e w' => e = .returned (.tuple #[.int .i64 dy, .int .i64 dm, .int .i64 dd]) ∧ W = w'))
    (HCK : Hid (∀ W, Calls Tryz.prog 76 #[.agg #[.int .i64 ((sd + 60) * 86400 + (3600 * h + 60 * mi + se)), .int .i64 na]] W fun e w' => e = .returned (.int .i64 ck) ∧ Below W.heap.size W w')) (hz43 : (z == 43) = false) (hz45 : (z == 45) = false)
    (hnil : sE.toList = [] → sE = ⟨#[]⟩) (hno : (bE = true ∨ ¬ sE.toList = [] ∨ u1 = true ∨ u2 = true ∨ u3 = true ∨ u4 = false) → (.tuple #[.agg #[.int .i64 rs, .int .i64 rn], .int .i64 re] : Value) = .tuple #[.agg #[.int .i64 0, .int .i64 0], .int .i64 120]) (hyes : sE.toList = [] → bE = false → u1 = false → u2 = false → u3 = false → u4 = true → (.tuple #[.agg #[.int .i64 rs, .int .i64 rn], .int .i64 re] : Value) = .tuple #[.agg #[.int .i64 ((sd + 60) * 86400 + (3600 * h + 60 * mi + se)), .int .i64 na], .int .i64 0]) :
    Calls Tryz.prog 50 #[.string s0] w fun e w' => e = .returned (.tuple #[.agg #[.int .i64 rs, .int .i64 rn], .int .i64 re]) ∧ Below w.heap.size w w' := by
  have hmf : ∀ (fn : Fn) (first cap : Array Value) (w : World), (Instr.makeFunc fn first cap).run Tryz.prog w = .ok (.func fn first cap) w := fun _ _ _ _ => rfl
  obtain ⟨w0, hw0⟩ : ∃ w0 : World, w0 = ((w.alloc (.cells #[.int .i64 0, .int .i64 0] 84 (0, 0))).alloc (.cells #[.string s0, .bool false] 116 (0, 0))) := ⟨_, rfl⟩
  have HT0 : Hid (TXc (w.heap.size + 1) s0 false w0) := Lib.hid (by rw [hw0]; exact heap_new _ _ _ (by simp))
  have HR0 : Hid (w0.heap[w.heap.size]? = some (.cells #[.int .i64 0, .int .i64 0] 84 (0, 0))) := Lib.hid (by rw [hw0]; exact heap_old (heap_new _ _ _ rfl))
  have HB0 : Hid (Below w.heap.size w w0) := Lib.hid (by rw [hw0]; exact ((Below.refl _ _).alloc (Nat.le_refl _) _).alloc (by simp) _)
  have hz0 : w.heap.size + 1 < w0.heap.size := HT0.out.lt
  go_enter Tryz.func50, Tryz.ntmps50
  go_wp2_with fail
  refine scope_once 0 rfl ?_
  go_wp2_with fail
  rw [← hw0]
  clear hw0
  refine (H0.out _ _ HT0.out).mono ?_; rintro e w1 ⟨rfl, ht, hk⟩
  have HT1 := Lib.hid ht
  have HR1 : Hid (w1.heap[w.heap.size]? = some (.cells #[.int .i64 0, .int .i64 0] 84 (0, 0))) := Lib.hid ((hk.2 w.heap.size (by omega) (by omega)).trans HR0.out)
  have HB1 : Hid (Below w.heap.size w w1) := Lib.hid (HB0.out.trans (hk.1.mono (by omega)))
  have hz1 : w.heap.size + 1 < w1.heap.size := ht.lt
  clear ht hk hz0
  go_wp2_with fail
  refine (H1.out _ _ HT1.out).mono ?_; rintro e w2 ⟨rfl, ht, hk⟩
  have HT2 := Lib.hid ht
  have HR2 : Hid (w2.heap[w.heap.size]? = some (.cells #[.int .i64 0, .int .i64 0] 84 (0, 0))) := Lib.hid ((hk.2 w.heap.size (by omega) (by omega)).trans HR1.out)
  have HB2 : Hid (Below w.heap.size w w2) := Lib.hid (HB1.out.trans (hk.1.mono (by omega)))
  have hz2 : w.heap.size + 1 < w2.heap.size := ht.lt
  clear ht hk hz1
  go_wp2_with fail
  refine (H2.out _ _ HT2.out).mono ?_; rintro e w3 ⟨rfl, ht, hk⟩
  have HT3 := Lib.hid ht
  have HR3 : Hid (w3.heap[w.heap.size]? = some (.cells #[.int .i64 0, .int .i64 0] 84 (0, 0))) := Lib.hid ((hk.2 w.heap.size (by omega) (by omega)).trans HR2.out)
  have HB3 : Hid (Below w.heap.size w w3) := Lib.hid (HB2.out.trans (hk.1.mono (by omega)))
  have hz3 : w.heap.size + 1 < w3.heap.size := ht.lt
  clear ht hk hz2
  go_wp2_with fail
  refine (H3.out _ _ HT3.out).mono ?_; rintro e w4 ⟨rfl, ht, hk⟩
  have HT4 := Lib.hid ht
  have HR4 : Hid (w4.heap[w.heap.size]? = some (.cells #[.int .i64 0, .int .i64 0] 84 (0, 0))) := Lib.hid ((hk.2 w.heap.size (by omega) (by omega)).trans HR3.out)
  have HB4 : Hid (Below w.heap.size w w4) := Lib.hid (HB3.out.trans (hk.1.mono (by omega)))
  have hz4 : w.heap.size + 1 < w4.heap.size := ht.lt
  clear ht hk hz3
  go_wp2_with fail
  refine (H4.out _ _ HT4.out).mono ?_; rintro e w5 ⟨rfl, ht, hk⟩
  have HT5 := Lib.hid ht
  have HR5 : Hid (w5.heap[w.heap.size]? = some (.cells #[.int .i64 0, .int .i64 0] 84 (0, 0))) := Lib.hid ((hk.2 w.heap.size (by omega) (by omega)).trans HR4.out)
  have HB5 : Hid (Below w.heap.size w w5) := Lib.hid (HB4.out.trans (hk.1.mono (by omega)))
  have hz5 : w.heap.size + 1 < w5.heap.size := ht.lt
  clear ht hk hz4
  go_wp2_with fail
  refine (H5.out _ _ HT5.out).mono ?_; rintro e w6 ⟨rfl, ht, hk⟩
  have HT6 := Lib.hid ht
  have HR6 : Hid (w6.heap[w.heap.size]? = some (.cells #[.int .i64 0, .int .i64 0] 84 (0, 0))) := Lib.hid ((hk.2 w.heap.size (by omega) (by omega)).trans HR5.out)
  have HB6 : Hid (Below w.heap.size w w6) := Lib.hid (HB5.out.trans (hk.1.mono (by omega)))
  have hz6 : w.heap.size + 1 < w6.heap.size := ht.lt
  clear ht hk hz5
  go_wp2_with fail
  refine (H6.out _ _ HT6.out).mono ?_; rintro e w7 ⟨rfl, ht, hk⟩
  have HT7 := Lib.hid ht
  have HR7 : Hid (w7.heap[w.heap.size]? = some (.cells #[.int .i64 0, .int .i64 0] 84 (0, 0))) := Lib.hid ((hk.2 w.heap.size (by omega) (by omega)).trans HR6.out)
  have HB7 : Hid (Below w.heap.size w w7) := Lib.hid (HB6.out.trans (hk.1.mono (by omega)))
  have hz7 : w.heap.size + 1 < w7.heap.size := ht.lt
  clear ht hk hz6
  go_wp2_with fail
  refine (H7.out _ _ HT7.out).mono ?_; rintro e w8 ⟨rfl, ht, hk⟩
  have HT8 := Lib.hid ht
  have HR8 : Hid (w8.heap[w.heap.size]? = some (.cells #[.int .i64 0, .int .i64 0] 84 (0, 0))) := Lib.hid ((hk.2 w.heap.size (by omega) (by omega)).trans HR7.out)
  have HB8 : Hid (Below w.heap.size w w8) := Lib.hid (HB7.out.trans (hk.1.mono (by omega)))
  have hz8 : w.heap.size + 1 < w8.heap.size := ht.lt
  clear ht hk hz7
  go_wp2_with fail
  refine (H8.out _ _ HT8.out).mono ?_; rintro e w9 ⟨rfl, ht, hk⟩
  have HT9 := Lib.hid ht
  have HR9 : Hid (w9.heap[w.heap.size]? = some (.cells #[.int .i64 0, .int .i64 0] 84 (0, 0))) := Lib.hid ((hk.2 w.heap.size (by omega) (by omega)).trans HR8.out)
  have HB9 : Hid (Below w.heap.size w w9) := Lib.hid (HB8.out.trans (hk.1.mono (by omega)))
  have hz9 : w.heap.size + 1 < w9.heap.size := ht.lt
  clear ht hk hz8
  go_wp2_with fail
  refine (H9.out _ _ HT9.out).mono ?_; rintro e w10 ⟨rfl, ht, hk⟩
  have HT10 := Lib.hid ht
  have HR10 : Hid (w10.heap[w.heap.size]? = some (.cells #[.int .i64 0, .int .i64 0] 84 (0, 0))) := Lib.hid ((hk.2 w.heap.size (by omega) (by omega)).trans HR9.out)
  have HB10 : Hid (Below w.heap.size w w10) := Lib.hid (HB9.out.trans (hk.1.mono (by omega)))
  have hz10 : w.heap.size + 1 < w10.heap.size := ht.lt
  clear ht hk hz9
  go_wp2_with fail
  refine (H10.out _ _ HT10.out).mono ?_; rintro e w11 ⟨rfl, ht, hk⟩
  have HT11 := Lib.hid ht
  have HR11 : Hid (w11.heap[w.heap.size]? = some (.cells #[.int .i64 0, .int .i64 0] 84 (0, 0))) := Lib.hid ((hk.2 w.heap.size (by omega) (by omega)).trans HR10.out)
  have HB11 : Hid (Below w.heap.size w w11) := Lib.hid (HB10.out.trans (hk.1.mono (by omega)))
  have hz11 : w.heap.size + 1 < w11.heap.size := ht.lt
  clear ht hk hz10
  go_wp2_with fail
  refine (H11.out _ _ HT11.out).mono ?_; rintro e w12 ⟨rfl, ht, hk⟩
  have HT12 := Lib.hid ht
  have HR12 : Hid (w12.heap[w.heap.size]? = some (.cells #[.int .i64 0, .int .i64 0] 84 (0, 0))) := Lib.hid ((hk.2 w.heap.size (by omega) (by omega)).trans HR11.out)
  have HB12 : Hid (Below w.heap.size w w12) := Lib.hid (HB11.out.trans (hk.1.mono (by omega)))
  have hz12 : w.heap.size + 1 < w12.heap.size := ht.lt
  clear ht hk hz11
  have e0 : w12.cell? ⟨w.heap.size, 1, none⟩ = some (.int .i64 0) := (Lib.cell_of_heap HR12.out 1).trans rfl
  have e1 : w12.frozen? ⟨w.heap.size, 1, none⟩ = false := Lib.frozen_of_heap HR12.out 1
  have HTv : Hid (TXc (w.heap.size + 1) s12 b12 (w12.setCell ⟨w.heap.size, 1, none⟩ (.int .i64 na))) := Lib.hid (by show _ = _; rw [Below.heap_setCell _ _ _ _ (show w.heap.size + 1 ≠ w.heap.size by omega)]; exact HT12.out)
  have HRv : Hid ((w12.setCell ⟨w.heap.size, 1, none⟩ (.int .i64 na)).heap[w.heap.size]? = some (.cells #[.int .i64 0, .int .i64 na] 84 (0, 0))) := Lib.hid (on_pset HR12.out _ rfl)
  have HBv : Hid (Below w.heap.size w (w12.setCell ⟨w.heap.size, 1, none⟩ (.int .i64 na))) := Lib.hid (HB12.out.setCell (p := ⟨w.heap.size, 1, none⟩) (Nat.le_refl w.heap.size) (.int .i64 na))
  have hzv : w.heap.size + 1 < (w12.setCell ⟨w.heap.size, 1, none⟩ (.int .i64 na)).heap.size := HTv.out.lt
  go_wp2_with fail
  refine (H12.out _ _ HTv.out).mono ?_; rintro e w13 ⟨rfl, ht, hk⟩
  have HT13 := Lib.hid ht
  have HR13 : Hid (w13.heap[w.heap.size]? = some (.cells #[.int .i64 0, .int .i64 na] 84 (0, 0))) := Lib.hid ((hk.2 w.heap.size (by omega) (by omega)).trans HRv.out)
  have HB13 : Hid (Below w.heap.size w w13) := Lib.hid (HBv.out.trans (hk.1.mono (by omega)))
  have hz13 : w.heap.size + 1 < w13.heap.size := ht.lt
  clear ht hk hz12 hzv e0 e1
  have c0 := HT13.out.c0
  have c1 := HT13.out.c1
  have r0 : w13.cell? ⟨w.heap.size, 0, none⟩ = some (.int .i64 0) := (Lib.cell_of_heap HR13.out 0).trans rfl
  have r1 : w13.cell? ⟨w.heap.size, 1, none⟩ = some (.int .i64 na) := (Lib.cell_of_heap HR13.out 1).trans rfl
  have g0 : w13.frozen? ⟨w.heap.size, 0, none⟩ = false := Lib.frozen_of_heap HR13.out 0
  have g1 : w13.frozen? ⟨w.heap.size, 1, none⟩ = false := Lib.frozen_of_heap HR13.out 1
  cases bE with
  | true =>
    have HG := Lib.hid (hno (by simp))
    clear hno
    go_wp2_with fail
    go_step3
    go_wp2_with fail
    refine goto_jump ?_
    go_wp2_with fail
    rw [Exit.noGoto_ret]
    refine bodyPost_ret (v := .tuple #[.agg #[.int .i64 0, .int .i64 0], .int .i64 120]) (by simp [results, Tryz.results50, go_sem, r0, r1, g0, g1]; try rfl) rfl ?_
    exact ⟨by rw [HG.out], (HB13.out.setCell (p := ⟨w.heap.size, 0, none⟩) (Nat.le_refl w.heap.size) _).setCell (p := ⟨w.heap.size, 1, none⟩) (Nat.le_refl w.heap.size) _⟩
  | false =>
    by_cases hsE : sE.toList = []
    · obtain rfl := hnil hsE
      cases u1 with
      | true =>
        have HG := Lib.hid (hno (by simp))
        clear hno hsE
        go_wp2_with fail
        refine (HS.out _).mono ?_; rintro e x1 ⟨rfl, rfl⟩
        go_wp2_with fail
        refine (HD.out _).mono ?_; rintro e x1 ⟨rfl, rfl⟩
        go_wp2_with fail
        go_step3
        go_wp2_with fail
        refine goto_jump ?_
        go_wp2_with fail
        rw [Exit.noGoto_ret]
        refine bodyPost_ret (v := .tuple #[.agg #[.int .i64 0, .int .i64 0], .int .i64 120]) (by simp [results, Tryz.results50, go_sem, r0, r1, g0, g1]; try rfl) rfl ?_
        exact ⟨by rw [HG.out], (HB13.out.setCell (p := ⟨w.heap.size, 0, none⟩) (Nat.le_refl w.heap.size) _).setCell (p := ⟨w.heap.size, 1, none⟩) (Nat.le_refl w.heap.size) _⟩
      | false =>
        cases u2 with
        | true =>
          have HG := Lib.hid (hno (by simp))
          clear hno hsE
          go_wp2_with fail
          refine (HS.out _).mono ?_; rintro e x1 ⟨rfl, rfl⟩
          go_wp2_with fail
          refine (HD.out _).mono ?_; rintro e x1 ⟨rfl, rfl⟩
          go_wp2_with fail
          go_step3
          go_wp2_with fail
          refine goto_jump ?_
          go_wp2_with fail
          rw [Exit.noGoto_ret]
          refine bodyPost_ret (v := .tuple #[.agg #[.int .i64 0, .int .i64 0], .int .i64 120]) (by simp [results, Tryz.results50, go_sem, r0, r1, g0, g1]; try rfl) rfl ?_
          exact ⟨by rw [HG.out], (HB13.out.setCell (p := ⟨w.heap.size, 0, none⟩) (Nat.le_refl w.heap.size) _).setCell (p := ⟨w.heap.size, 1, none⟩) (Nat.le_refl w.heap.size) _⟩
        | false =>
          cases u3 with
          | true =>
            have HG := Lib.hid (hno (by simp))
            clear hno hsE
            go_wp2_with fail
            refine (HS.out _).mono ?_; rintro e x1 ⟨rfl, rfl⟩
            go_wp2_with fail
            refine (HD.out _).mono ?_; rintro e x1 ⟨rfl, rfl⟩
            go_wp2_with fail
            go_step3
            go_wp2_with fail
            refine goto_jump ?_
            go_wp2_with fail
            rw [Exit.noGoto_ret]
            refine bodyPost_ret (v := .tuple #[.agg #[.int .i64 0, .int .i64 0], .int .i64 120]) (by simp [results, Tryz.results50, go_sem, r0, r1, g0, g1]; try rfl) rfl ?_
            exact ⟨by rw [HG.out], (HB13.out.setCell (p := ⟨w.heap.size, 0, none⟩) (Nat.le_refl w.heap.size) _).setCell (p := ⟨w.heap.size, 1, none⟩) (Nat.le_refl w.heap.size) _⟩
          | false =>
            cases u4 with
            | false =>
              have HG := Lib.hid (hno (by simp))
              clear hno hsE
              go_wp2_with fail
              refine (HS.out _).mono ?_; rintro e x1 ⟨rfl, rfl⟩
              go_wp2_with fail
              refine (HD.out _).mono ?_; rintro e x1 ⟨rfl, rfl⟩
              go_wp2_with fail
              refine (HS.out _).mono ?_; rintro e x1 ⟨rfl, rfl⟩
              go_wp2_with fail
              have HRs : Hid ((w13.setCell ⟨w.heap.size, 0, none⟩ (.int .i64 ((sd + 60) * 86400 + (3600 * h + 60 * mi + se)))).heap[w.heap.size]? = some (.cells #[.int .i64 ((sd + 60) * 86400 + (3600 * h + 60 * mi + se)), .int .i64 na] 84 (0, 0))) := Lib.hid (on_pset HR13.out _ rfl)
              have HBs : Hid (Below w.heap.size w (w13.setCell ⟨w.heap.size, 0, none⟩ (.int .i64 ((sd + 60) * 86400 + (3600 * h + 60 * mi + se))))) := Lib.hid (HB13.out.setCell (p := ⟨w.heap.size, 0, none⟩) (Nat.le_refl w.heap.size) _)
              (with_reducible refine (HCK.out _).mono ?_); rintro e x2 ⟨rfl, hb⟩
              have HR2 : Hid (x2.heap[w.heap.size]? = some (.cells #[.int .i64 ((sd + 60) * 86400 + (3600 * h + 60 * mi + se)), .int .i64 na] 84 (0, 0))) := Lib.hid ((hb.block w.heap.size (heap_lt HRs.out)).trans HRs.out)
              have HB2 : Hid (Below w.heap.size w x2) := Lib.hid (HBs.out.trans (hb.mono HBs.out.size))
              clear hb r0 r1 g0 g1 c0 c1
              have r0 : x2.cell? ⟨w.heap.size, 0, none⟩ = some (.int .i64 ((sd + 60) * 86400 + (3600 * h + 60 * mi + se))) := (Lib.cell_of_heap HR2.out 0).trans rfl
              have r1 : x2.cell? ⟨w.heap.size, 1, none⟩ = some (.int .i64 na) := (Lib.cell_of_heap HR2.out 1).trans rfl
              have g0 : x2.frozen? ⟨w.heap.size, 0, none⟩ = false := Lib.frozen_of_heap HR2.out 0
              have g1 : x2.frozen? ⟨w.heap.size, 1, none⟩ = false := Lib.frozen_of_heap HR2.out 1
              go_wp2_with fail
              go_step3
              go_wp2_with fail
              rw [jump_ret]
              refine bodyPost_ret (v := .tuple #[.agg #[.int .i64 0, .int .i64 0], .int .i64 120]) (by simp [results, Tryz.results50, go_sem, r0, r1, g0, g1]; try rfl) rfl ?_
              exact ⟨by rw [HG.out], (HB2.out.setCell (p := ⟨w.heap.size, 0, none⟩) (Nat.le_refl w.heap.size) _).setCell (p := ⟨w.heap.size, 1, none⟩) (Nat.le_refl w.heap.size) _⟩
            | true =>
              have HG := Lib.hid (hyes hsE rfl rfl rfl rfl rfl)
              clear hno hsE
              go_wp2_with fail
              refine (HS.out _).mono ?_; rintro e x1 ⟨rfl, rfl⟩
              go_wp2_with fail
              refine (HD.out _).mono ?_; rintro e x1 ⟨rfl, rfl⟩
              go_wp2_with fail
              refine (HS.out _).mono ?_; rintro e x1 ⟨rfl, rfl⟩
              go_wp2_with fail
              have HRs : Hid ((w13.setCell ⟨w.heap.size, 0, none⟩ (.int .i64 ((sd + 60) * 86400 + (3600 * h + 60 * mi + se)))).heap[w.heap.size]? = some (.cells #[.int .i64 ((sd + 60) * 86400 + (3600 * h + 60 * mi + se)), .int .i64 na] 84 (0, 0))) := Lib.hid (on_pset HR13.out _ rfl)
              have HBs : Hid (Below w.heap.size w (w13.setCell ⟨w.heap.size, 0, none⟩ (.int .i64 ((sd + 60) * 86400 + (3600 * h + 60 * mi + se))))) := Lib.hid (HB13.out.setCell (p := ⟨w.heap.size, 0, none⟩) (Nat.le_refl w.heap.size) _)
              (with_reducible refine (HCK.out _).mono ?_); rintro e x2 ⟨rfl, hb⟩
              have HR2 : Hid (x2.heap[w.heap.size]? = some (.cells #[.int .i64 ((sd + 60) * 86400 + (3600 * h + 60 * mi + se)), .int .i64 na] 84 (0, 0))) := Lib.hid ((hb.block w.heap.size (heap_lt HRs.out)).trans HRs.out)
              have HB2 : Hid (Below w.heap.size w x2) := Lib.hid (HBs.out.trans (hb.mono HBs.out.size))
              clear hb r0 r1 g0 g1 c0 c1
              have r0 : x2.cell? ⟨w.heap.size, 0, none⟩ = some (.int .i64 ((sd + 60) * 86400 + (3600 * h + 60 * mi + se))) := (Lib.cell_of_heap HR2.out 0).trans rfl
              have r1 : x2.cell? ⟨w.heap.size, 1, none⟩ = some (.int .i64 na) := (Lib.cell_of_heap HR2.out 1).trans rfl
              have g0 : x2.frozen? ⟨w.heap.size, 0, none⟩ = false := Lib.frozen_of_heap HR2.out 0
              have g1 : x2.frozen? ⟨w.heap.size, 1, none⟩ = false := Lib.frozen_of_heap HR2.out 1
              go_wp2_with fail
              rw [jump_ret]
              refine bodyPost_ret (v := .tuple #[.agg #[.int .i64 ((sd + 60) * 86400 + (3600 * h + 60 * mi + se)), .int .i64 na], .int .i64 0]) (by simp [results, Tryz.results50, go_sem, r0, r1, g0, g1]; try rfl) rfl ?_
              exact ⟨by rw [HG.out], (HB2.out.setCell (p := ⟨w.heap.size, 0, none⟩) (Nat.le_refl w.heap.size) _).setCell (p := ⟨w.heap.size, 1, none⟩) (Nat.le_refl w.heap.size) _⟩
    · have hs2 : sE.toList.isEmpty = false := by simpa using hsE
      have HG := Lib.hid (hno (by simp [hsE]))
      clear hno
      go_wp2_with fail
      go_step3
      go_wp2_with fail
      refine goto_jump ?_
      go_wp2_with fail
      rw [Exit.noGoto_ret]
      refine bodyPost_ret (v := .tuple #[.agg #[.int .i64 0, .int .i64 0], .int .i64 120]) (by simp [results, Tryz.results50, go_sem, r0, r1, g0, g1]; try rfl) rfl ?_
      exact ⟨by rw [HG.out], (HB13.out.setCell (p := ⟨w.heap.size, 0, none⟩) (Nat.le_refl w.heap.size) _).setCell (p := ⟨w.heap.size, 1, none⟩) (Nat.le_refl w.heap.size) _⟩
end Go.Proofs.YtjhgiojmlkeccaaGreatDoor
namespace Go.Proofs.YtjhgiojmlkeccaaGreatDoor
open Go.RowKit Go.Shelf
set_option maxRecDepth 100000 in
set_option maxHeartbeats 8000000 in
theorem dparse_p (s0 s1 s2 s3 s4 s5 s6 s7 s8 s9 s10 s11 s12 s13 s14 s15 sE : ByteArray) (b1 b2 b3 b4 b5 b6 b7 b8 b9 b10 b11 b12 b13 b14 b15 bE : Bool) (y q1 mo q2 d q3 h q4 mi q5 se na oh q6 om : Int) (hy0 : 0 ≤ y) (hy1 : y ≤ 9999) (hm0 : 1 ≤ mo) (hm1 : mo ≤ 12) (hd0 : 1 ≤ d) (hd1 : d ≤ 31) (hh0 : 0 ≤ h) (hh1 : h ≤ 23) (hi0 : 0 ≤ mi) (hi1 : mi ≤ 59) (hs0 : 0 ≤ se) (hs1 : se ≤ 59) (sd : Int) (hsd0 : -1000 ≤ sd) (hsd1 : sd ≤ 4000000) (dy dm dd ck : Int) (u1 u2 u3 u4 : Bool) (rs rn re : Int) (hu1 : (dy != y) = u1) (hu2 : (dm != mo) = u2) (hu3 : (dd != d) = u3) (hu4 : (ck == 0) = u4) (w : World) (H0 : Hid (DNum 4 0 9999 y s0 false s1 b1)) (H1 : Hid (DMark ⟨#[45]⟩ q1 s1 b1 s2 b2)) (H2 : Hid (DNum 2 1 12 mo s2 b2 s3 b3)) (H3 : Hid (DMark ⟨#[45]⟩ q2 s3 b3 s4 b4)) (H4 : Hid (DNum 2 1 31 d s4 b4 s5 b5)) (H5 : Hid (DMark ⟨#[84, 116]⟩ q3 s5 b5 s6 b6)) (H6 : Hid (DNum 2 0 23 h s6 b6 s7 b7)) (H7 : Hid (DMark ⟨#[58]⟩ q4 s7 b7 s8 b8)) (H8 : Hid (DNum 2 0 59 mi s8 b8 s9 b9)) (H9 : Hid (DMark ⟨#[58]⟩ q5 s9 b9 s10 b10)) (H10 : Hid (DNum 2 0 59 se s10 b10 s11 b11)) (H11 : Hid (DFrac na s11 b11 s12 b12)) (H12 : Hid (DMark ⟨#[90, 122, 43, 45]⟩ 43 s12 b12 s13 b13)) (H13 : Hid (DNum 2 0 23 oh s13 b13 s14 b14)) (H14 : Hid (DMark ⟨#[58]⟩ q6 s14 b14 s15 b15)) (H15 : Hid (DNum 2 0 59 om s15 b15 sE bE)) (HS : Hid (∀ W, Calls Tryz.prog 75 #[.int .i64 y, .int .i64 mo, .int .i64 d] W fun e w' => e = .returned (.int .i64 sd) ∧ W = w')) (HD : Hid (∀ W, Calls Tryz.prog 74 #[.int .i64 sd] W fun e w' => e = .returned (.tuple #[.int .i64 dy, .int .i64 dm, .int .i64 dd]) ∧ W = w'))
    (HCK : Hid (∀ W, Calls Tryz.prog 76 #[.agg #[.int .i64 ((sd + 60) * 86400 + (3600 * h + 60 * mi + se - 60 * (60 * oh + om))), .int .i64 na]] W fun e w' => e = .returned (.int .i64 ck) ∧ Below W.heap.size W w')) (ho0 : 0 ≤ oh) (ho1 : oh ≤ 23) (hp0 : 0 ≤ om) (hp1 : om ≤ 59)
    (hnil : sE.toList = [] → sE = ⟨#[]⟩) (hno : (bE = true ∨ ¬ sE.toList = [] ∨ u1 = true ∨ u2 = true ∨ u3 = true ∨ u4 = false) → (.tuple #[.agg #[.int .i64 rs, .int .i64 rn], .int .i64 re] : Value) = .tuple #[.agg #[.int .i64 0, .int .i64 0], .int .i64 120]) (hyes : sE.toList = [] → bE = false → u1 = false → u2 = false → u3 = false → u4 = true → (.tuple #[.agg #[.int .i64 rs, .int .i64 rn], .int .i64 re] : Value) = .tuple #[.agg #[.int .i64 ((sd + 60) * 86400 + (3600 * h + 60 * mi + se - 60 * (60 * oh + om))), .int .i64 na], .int .i64 0]) :
    Calls Tryz.prog 50 #[.string s0] w fun e w' => e = .returned (.tuple #[.agg #[.int .i64 rs, .int .i64 rn], .int .i64 re]) ∧ Below w.heap.size w w' := by
  have hmf : ∀ (fn : Fn) (first cap : Array Value) (w : World), (Instr.makeFunc fn first cap).run Tryz.prog w = .ok (.func fn first cap) w := fun _ _ _ _ => rfl
  obtain ⟨w0, hw0⟩ : ∃ w0 : World, w0 = ((w.alloc (.cells #[.int .i64 0, .int .i64 0] 84 (0, 0))).alloc (.cells #[.string s0, .bool false] 116 (0, 0))) := ⟨_, rfl⟩
  have HT0 : Hid (TXc (w.heap.size + 1) s0 false w0) := Lib.hid (by rw [hw0]; exact heap_new _ _ _ (by simp))
  have HR0 : Hid (w0.heap[w.heap.size]? = some (.cells #[.int .i64 0, .int .i64 0] 84 (0, 0))) := Lib.hid (by rw [hw0]; exact heap_old (heap_new _ _ _ rfl))
  have HB0 : Hid (Below w.heap.size w w0) := Lib.hid (by rw [hw0]; exact ((Below.refl _ _).alloc (Nat.le_refl _) _).alloc (by simp) _)
  have hz0 : w.heap.size + 1 < w0.heap.size := HT0.out.lt
  go_enter Tryz.func50, Tryz.ntmps50
  go_wp2_with fail
  refine scope_once 0 rfl ?_
  go_wp2_with fail
  rw [← hw0]
  clear hw0
  refine (H0.out _ _ HT0.out).mono ?_; rintro e w1 ⟨rfl, ht, hk⟩
  have HT1 := Lib.hid ht
  have HR1 : Hid (w1.heap[w.heap.size]? = some (.cells #[.int .i64 0, .int .i64 0] 84 (0, 0))) := Lib.hid ((hk.2 w.heap.size (by omega) (by omega)).trans HR0.out)
  have HB1 : Hid (Below w.heap.size w w1) := Lib.hid (HB0.out.trans (hk.1.mono (by omega)))
  have hz1 : w.heap.size + 1 < w1.heap.size := ht.lt
  clear ht hk hz0
  go_wp2_with fail
  refine (H1.out _ _ HT1.out).mono ?_; rintro e w2 ⟨rfl, ht, hk⟩
  have HT2 := Lib.hid ht
  have HR2 : Hid (w2.heap[w.heap.size]? = some (.cells #[.int .i64 0, .int .i64 0] 84 (0, 0))) := Lib.hid ((hk.2 w.heap.size (by omega) (by omega)).trans HR1.out)
  have HB2 : Hid (Below w.heap.size w w2) := Lib.hid (HB1.out.trans (hk.1.mono (by omega)))
  have hz2 : w.heap.size + 1 < w2.heap.size := ht.lt
  clear ht hk hz1
  go_wp2_with fail
  refine (H2.out _ _ HT2.out).mono ?_; rintro e w3 ⟨rfl, ht, hk⟩
  have HT3 := Lib.hid ht
  have HR3 : Hid (w3.heap[w.heap.size]? = some (.cells #[.int .i64 0, .int .i64 0] 84 (0, 0))) := Lib.hid ((hk.2 w.heap.size (by omega) (by omega)).trans HR2.out)
  have HB3 : Hid (Below w.heap.size w w3) := Lib.hid (HB2.out.trans (hk.1.mono (by omega)))
  have hz3 : w.heap.size + 1 < w3.heap.size := ht.lt
  clear ht hk hz2
  go_wp2_with fail
  refine (H3.out _ _ HT3.out).mono ?_; rintro e w4 ⟨rfl, ht, hk⟩
  have HT4 := Lib.hid ht
  have HR4 : Hid (w4.heap[w.heap.size]? = some (.cells #[.int .i64 0, .int .i64 0] 84 (0, 0))) := Lib.hid ((hk.2 w.heap.size (by omega) (by omega)).trans HR3.out)
  have HB4 : Hid (Below w.heap.size w w4) := Lib.hid (HB3.out.trans (hk.1.mono (by omega)))
  have hz4 : w.heap.size + 1 < w4.heap.size := ht.lt
  clear ht hk hz3
  go_wp2_with fail
  refine (H4.out _ _ HT4.out).mono ?_; rintro e w5 ⟨rfl, ht, hk⟩
  have HT5 := Lib.hid ht
  have HR5 : Hid (w5.heap[w.heap.size]? = some (.cells #[.int .i64 0, .int .i64 0] 84 (0, 0))) := Lib.hid ((hk.2 w.heap.size (by omega) (by omega)).trans HR4.out)
  have HB5 : Hid (Below w.heap.size w w5) := Lib.hid (HB4.out.trans (hk.1.mono (by omega)))
  have hz5 : w.heap.size + 1 < w5.heap.size := ht.lt
  clear ht hk hz4
  go_wp2_with fail
  refine (H5.out _ _ HT5.out).mono ?_; rintro e w6 ⟨rfl, ht, hk⟩
  have HT6 := Lib.hid ht
  have HR6 : Hid (w6.heap[w.heap.size]? = some (.cells #[.int .i64 0, .int .i64 0] 84 (0, 0))) := Lib.hid ((hk.2 w.heap.size (by omega) (by omega)).trans HR5.out)
  have HB6 : Hid (Below w.heap.size w w6) := Lib.hid (HB5.out.trans (hk.1.mono (by omega)))
  have hz6 : w.heap.size + 1 < w6.heap.size := ht.lt
  clear ht hk hz5
  go_wp2_with fail
  refine (H6.out _ _ HT6.out).mono ?_; rintro e w7 ⟨rfl, ht, hk⟩
  have HT7 := Lib.hid ht
  have HR7 : Hid (w7.heap[w.heap.size]? = some (.cells #[.int .i64 0, .int .i64 0] 84 (0, 0))) := Lib.hid ((hk.2 w.heap.size (by omega) (by omega)).trans HR6.out)
  have HB7 : Hid (Below w.heap.size w w7) := Lib.hid (HB6.out.trans (hk.1.mono (by omega)))
  have hz7 : w.heap.size + 1 < w7.heap.size := ht.lt
  clear ht hk hz6
  go_wp2_with fail
  refine (H7.out _ _ HT7.out).mono ?_; rintro e w8 ⟨rfl, ht, hk⟩
  have HT8 := Lib.hid ht
  have HR8 : Hid (w8.heap[w.heap.size]? = some (.cells #[.int .i64 0, .int .i64 0] 84 (0, 0))) := Lib.hid ((hk.2 w.heap.size (by omega) (by omega)).trans HR7.out)
  have HB8 : Hid (Below w.heap.size w w8) := Lib.hid (HB7.out.trans (hk.1.mono (by omega)))
  have hz8 : w.heap.size + 1 < w8.heap.size := ht.lt
  clear ht hk hz7
  go_wp2_with fail
  refine (H8.out _ _ HT8.out).mono ?_; rintro e w9 ⟨rfl, ht, hk⟩
  have HT9 := Lib.hid ht
  have HR9 : Hid (w9.heap[w.heap.size]? = some (.cells #[.int .i64 0, .int .i64 0] 84 (0, 0))) := Lib.hid ((hk.2 w.heap.size (by omega) (by omega)).trans HR8.out)
  have HB9 : Hid (Below w.heap.size w w9) := Lib.hid (HB8.out.trans (hk.1.mono (by omega)))
  have hz9 : w.heap.size + 1 < w9.heap.size := ht.lt
  clear ht hk hz8
  go_wp2_with fail
  refine (H9.out _ _ HT9.out).mono ?_; rintro e w10 ⟨rfl, ht, hk⟩
  have HT10 := Lib.hid ht
  have HR10 : Hid (w10.heap[w.heap.size]? = some (.cells #[.int .i64 0, .int .i64 0] 84 (0, 0))) := Lib.hid ((hk.2 w.heap.size (by omega) (by omega)).trans HR9.out)
  have HB10 : Hid (Below w.heap.size w w10) := Lib.hid (HB9.out.trans (hk.1.mono (by omega)))
  have hz10 : w.heap.size + 1 < w10.heap.size := ht.lt
  clear ht hk hz9
  go_wp2_with fail
  refine (H10.out _ _ HT10.out).mono ?_; rintro e w11 ⟨rfl, ht, hk⟩
  have HT11 := Lib.hid ht
  have HR11 : Hid (w11.heap[w.heap.size]? = some (.cells #[.int .i64 0, .int .i64 0] 84 (0, 0))) := Lib.hid ((hk.2 w.heap.size (by omega) (by omega)).trans HR10.out)
  have HB11 : Hid (Below w.heap.size w w11) := Lib.hid (HB10.out.trans (hk.1.mono (by omega)))
  have hz11 : w.heap.size + 1 < w11.heap.size := ht.lt
  clear ht hk hz10
  go_wp2_with fail
  refine (H11.out _ _ HT11.out).mono ?_; rintro e w12 ⟨rfl, ht, hk⟩
  have HT12 := Lib.hid ht
  have HR12 : Hid (w12.heap[w.heap.size]? = some (.cells #[.int .i64 0, .int .i64 0] 84 (0, 0))) := Lib.hid ((hk.2 w.heap.size (by omega) (by omega)).trans HR11.out)
  have HB12 : Hid (Below w.heap.size w w12) := Lib.hid (HB11.out.trans (hk.1.mono (by omega)))
  have hz12 : w.heap.size + 1 < w12.heap.size := ht.lt
  clear ht hk hz11
  have e0 : w12.cell? ⟨w.heap.size, 1, none⟩ = some (.int .i64 0) := (Lib.cell_of_heap HR12.out 1).trans rfl
  have e1 : w12.frozen? ⟨w.heap.size, 1, none⟩ = false := Lib.frozen_of_heap HR12.out 1
  have HTv : Hid (TXc (w.heap.size + 1) s12 b12 (w12.setCell ⟨w.heap.size, 1, none⟩ (.int .i64 na))) := Lib.hid (by show _ = _; rw [Below.heap_setCell _ _ _ _ (show w.heap.size + 1 ≠ w.heap.size by omega)]; exact HT12.out)
  have HRv : Hid ((w12.setCell ⟨w.heap.size, 1, none⟩ (.int .i64 na)).heap[w.heap.size]? = some (.cells #[.int .i64 0, .int .i64 na] 84 (0, 0))) := Lib.hid (on_pset HR12.out _ rfl)
  have HBv : Hid (Below w.heap.size w (w12.setCell ⟨w.heap.size, 1, none⟩ (.int .i64 na))) := Lib.hid (HB12.out.setCell (p := ⟨w.heap.size, 1, none⟩) (Nat.le_refl w.heap.size) (.int .i64 na))
  have hzv : w.heap.size + 1 < (w12.setCell ⟨w.heap.size, 1, none⟩ (.int .i64 na)).heap.size := HTv.out.lt
  go_wp2_with fail
  refine (H12.out _ _ HTv.out).mono ?_; rintro e w13 ⟨rfl, ht, hk⟩
  have HT13 := Lib.hid ht
  have HR13 : Hid (w13.heap[w.heap.size]? = some (.cells #[.int .i64 0, .int .i64 na] 84 (0, 0))) := Lib.hid ((hk.2 w.heap.size (by omega) (by omega)).trans HRv.out)
  have HB13 : Hid (Below w.heap.size w w13) := Lib.hid (HBv.out.trans (hk.1.mono (by omega)))
  have hz13 : w.heap.size + 1 < w13.heap.size := ht.lt
  clear ht hk hz12 hzv e0 e1
  go_wp2_with fail
  refine (H13.out _ _ HT13.out).mono ?_; rintro e w14 ⟨rfl, ht, hk⟩
  have HT14 := Lib.hid ht
  have HR14 : Hid (w14.heap[w.heap.size]? = some (.cells #[.int .i64 0, .int .i64 na] 84 (0, 0))) := Lib.hid ((hk.2 w.heap.size (by omega) (by omega)).trans HR13.out)
  have HB14 : Hid (Below w.heap.size w w14) := Lib.hid (HB13.out.trans (hk.1.mono (by omega)))
  have hz14 : w.heap.size + 1 < w14.heap.size := ht.lt
  clear ht hk hz13
  go_wp2_with fail
  refine (H14.out _ _ HT14.out).mono ?_; rintro e w15 ⟨rfl, ht, hk⟩
  have HT15 := Lib.hid ht
  have HR15 : Hid (w15.heap[w.heap.size]? = some (.cells #[.int .i64 0, .int .i64 na] 84 (0, 0))) := Lib.hid ((hk.2 w.heap.size (by omega) (by omega)).trans HR14.out)
  have HB15 : Hid (Below w.heap.size w w15) := Lib.hid (HB14.out.trans (hk.1.mono (by omega)))
  have hz15 : w.heap.size + 1 < w15.heap.size := ht.lt
  clear ht hk hz14
  go_wp2_with fail
  refine (H15.out _ _ HT15.out).mono ?_; rintro e w16 ⟨rfl, ht, hk⟩
  have HT16 := Lib.hid ht
  have HR16 : Hid (w16.heap[w.heap.size]? = some (.cells #[.int .i64 0, .int .i64 na] 84 (0, 0))) := Lib.hid ((hk.2 w.heap.size (by omega) (by omega)).trans HR15.out)
  have HB16 : Hid (Below w.heap.size w w16) := Lib.hid (HB15.out.trans (hk.1.mono (by omega)))
  have hz16 : w.heap.size + 1 < w16.heap.size := ht.lt
  clear ht hk hz15
  have c0 := HT16.out.c0
  have c1 := HT16.out.c1
  have r0 : w16.cell? ⟨w.heap.size, 0, none⟩ = some (.int .i64 0) := (Lib.cell_of_heap HR16.out 0).trans rfl
  have r1 : w16.cell? ⟨w.heap.size, 1, none⟩ = some (.int .i64 na) := (Lib.cell_of_heap HR16.out 1).trans rfl
  have g0 : w16.frozen? ⟨w.heap.size, 0, none⟩ = false := Lib.frozen_of_heap HR16.out 0
  have g1 : w16.frozen? ⟨w.heap.size, 1, none⟩ = false := Lib.frozen_of_heap HR16.out 1
  cases bE with
  | true =>
    have HG := Lib.hid (hno (by simp))
    clear hno
    go_wp2_with fail
    go_step3
    go_wp2_with fail
    refine goto_jump ?_
    go_wp2_with fail
    rw [Exit.noGoto_ret]
    refine bodyPost_ret (v := .tuple #[.agg #[.int .i64 0, .int .i64 0], .int .i64 120]) (by simp [results, Tryz.results50, go_sem, r0, r1, g0, g1]; try rfl) rfl ?_
    exact ⟨by rw [HG.out], (HB16.out.setCell (p := ⟨w.heap.size, 0, none⟩) (Nat.le_refl w.heap.size) _).setCell (p := ⟨w.heap.size, 1, none⟩) (Nat.le_refl w.heap.size) _⟩
  | false =>
    by_cases hsE : sE.toList = []
    · obtain rfl := hnil hsE
      cases u1 with
      | true =>
        have HG := Lib.hid (hno (by simp))
        clear hno hsE
        go_wp2_with fail
        refine (HS.out _).mono ?_; rintro e x1 ⟨rfl, rfl⟩
        go_wp2_with fail
        refine (HD.out _).mono ?_; rintro e x1 ⟨rfl, rfl⟩
        go_wp2_with fail
        go_step3
        go_wp2_with fail
        refine goto_jump ?_
        go_wp2_with fail
        rw [Exit.noGoto_ret]
        refine bodyPost_ret (v := .tuple #[.agg #[.int .i64 0, .int .i64 0], .int .i64 120]) (by simp [results, Tryz.results50, go_sem, r0, r1, g0, g1]; try rfl) rfl ?_
        exact ⟨by rw [HG.out], (HB16.out.setCell (p := ⟨w.heap.size, 0, none⟩) (Nat.le_refl w.heap.size) _).setCell (p := ⟨w.heap.size, 1, none⟩) (Nat.le_refl w.heap.size) _⟩
      | false =>
        cases u2 with
        | true =>
          have HG := Lib.hid (hno (by simp))
          clear hno hsE
          go_wp2_with fail
          refine (HS.out _).mono ?_; rintro e x1 ⟨rfl, rfl⟩
          go_wp2_with fail
          refine (HD.out _).mono ?_; rintro e x1 ⟨rfl, rfl⟩
          go_wp2_with fail
          go_step3
          go_wp2_with fail
          refine goto_jump ?_
          go_wp2_with fail
          rw [Exit.noGoto_ret]
          refine bodyPost_ret (v := .tuple #[.agg #[.int .i64 0, .int .i64 0], .int .i64 120]) (by simp [results, Tryz.results50, go_sem, r0, r1, g0, g1]; try rfl) rfl ?_
          exact ⟨by rw [HG.out], (HB16.out.setCell (p := ⟨w.heap.size, 0, none⟩) (Nat.le_refl w.heap.size) _).setCell (p := ⟨w.heap.size, 1, none⟩) (Nat.le_refl w.heap.size) _⟩
        | false =>
          cases u3 with
          | true =>
            have HG := Lib.hid (hno (by simp))
            clear hno hsE
            go_wp2_with fail
            refine (HS.out _).mono ?_; rintro e x1 ⟨rfl, rfl⟩
            go_wp2_with fail
            refine (HD.out _).mono ?_; rintro e x1 ⟨rfl, rfl⟩
            go_wp2_with fail
            go_step3
            go_wp2_with fail
            refine goto_jump ?_
            go_wp2_with fail
            rw [Exit.noGoto_ret]
            refine bodyPost_ret (v := .tuple #[.agg #[.int .i64 0, .int .i64 0], .int .i64 120]) (by simp [results, Tryz.results50, go_sem, r0, r1, g0, g1]; try rfl) rfl ?_
            exact ⟨by rw [HG.out], (HB16.out.setCell (p := ⟨w.heap.size, 0, none⟩) (Nat.le_refl w.heap.size) _).setCell (p := ⟨w.heap.size, 1, none⟩) (Nat.le_refl w.heap.size) _⟩
          | false =>
            cases u4 with
            | false =>
              have HG := Lib.hid (hno (by simp))
              clear hno hsE
              go_wp2_with fail
              refine (HS.out _).mono ?_; rintro e x1 ⟨rfl, rfl⟩
              go_wp2_with fail
              refine (HD.out _).mono ?_; rintro e x1 ⟨rfl, rfl⟩
              go_wp2_with fail
              refine (HS.out _).mono ?_; rintro e x1 ⟨rfl, rfl⟩
              go_wp2_with fail
              have HRs : Hid ((w16.setCell ⟨w.heap.size, 0, none⟩ (.int .i64 ((sd + 60) * 86400 + (3600 * h + 60 * mi + se - 60 * (60 * oh + om))))).heap[w.heap.size]? = some (.cells #[.int .i64 ((sd + 60) * 86400 + (3600 * h + 60 * mi + se - 60 * (60 * oh + om))), .int .i64 na] 84 (0, 0))) := Lib.hid (on_pset HR16.out _ rfl)
              have HBs : Hid (Below w.heap.size w (w16.setCell ⟨w.heap.size, 0, none⟩ (.int .i64 ((sd + 60) * 86400 + (3600 * h + 60 * mi + se - 60 * (60 * oh + om)))))) := Lib.hid (HB16.out.setCell (p := ⟨w.heap.size, 0, none⟩) (Nat.le_refl w.heap.size) _)
              (with_reducible refine (HCK.out _).mono ?_); rintro e x2 ⟨rfl, hb⟩
              have HR2 : Hid (x2.heap[w.heap.size]? = some (.cells #[.int .i64 ((sd + 60) * 86400 + (3600 * h + 60 * mi + se - 60 * (60 * oh + om))), .int .i64 na] 84 (0, 0))) := Lib.hid ((hb.block w.heap.size (heap_lt HRs.out)).trans HRs.out)
              have HB2 : Hid (Below w.heap.size w x2) := Lib.hid (HBs.out.trans (hb.mono HBs.out.size))
              clear hb r0 r1 g0 g1 c0 c1
              have r0 : x2.cell? ⟨w.heap.size, 0, none⟩ = some (.int .i64 ((sd + 60) * 86400 + (3600 * h + 60 * mi + se - 60 * (60 * oh + om)))) := (Lib.cell_of_heap HR2.out 0).trans rfl
              have r1 : x2.cell? ⟨w.heap.size, 1, none⟩ = some (.int .i64 na) := (Lib.cell_of_heap HR2.out 1).trans rfl
              have g0 : x2.frozen? ⟨w.heap.size, 0, none⟩ = false := Lib.frozen_of_heap HR2.out 0
              have g1 : x2.frozen? ⟨w.heap.size, 1, none⟩ = false := Lib.frozen_of_heap HR2.out 1
              go_wp2_with fail
              go_step3
              go_wp2_with fail
              rw [jump_ret]
              refine bodyPost_ret (v := .tuple #[.agg #[.int .i64 0, .int .i64 0], .int .i64 120]) (by simp [results, Tryz.results50, go_sem, r0, r1, g0, g1]; try rfl) rfl ?_
              exact ⟨by rw [HG.out], (HB2.out.setCell (p := ⟨w.heap.size, 0, none⟩) (Nat.le_refl w.heap.size) _).setCell (p := ⟨w.heap.size, 1, none⟩) (Nat.le_refl w.heap.size) _⟩
            | true =>
              have HG := Lib.hid (hyes hsE rfl rfl rfl rfl rfl)
              clear hno hsE
              go_wp2_with fail
              refine (HS.out _).mono ?_; rintro e x1 ⟨rfl, rfl⟩
              go_wp2_with fail
              refine (HD.out _).mono ?_; rintro e x1 ⟨rfl, rfl⟩
              go_wp2_with fail
              refine (HS.out _).mono ?_; rintro e x1 ⟨rfl, rfl⟩
              go_wp2_with fail
              have HRs : Hid ((w16.setCell ⟨w.heap.size, 0, none⟩ (.int .i64 ((sd + 60) * 86400 + (3600 * h + 60 * mi + se - 60 * (60 * oh + om))))).heap[w.heap.size]? = some (.cells #[.int .i64 ((sd + 60) * 86400 + (3600 * h + 60 * mi + se - 60 * (60 * oh + om))), .int .i64 na] 84 (0, 0))) := Lib.hid (on_pset HR16.out _ rfl)
              have HBs : Hid (Below w.heap.size w (w16.setCell ⟨w.heap.size, 0, none⟩ (.int .i64 ((sd + 60) * 86400 + (3600 * h + 60 * mi + se - 60 * (60 * oh + om)))))) := Lib.hid (HB16.out.setCell (p := ⟨w.heap.size, 0, none⟩) (Nat.le_refl w.heap.size) _)
              (with_reducible refine (HCK.out _).mono ?_); rintro e x2 ⟨rfl, hb⟩
              have HR2 : Hid (x2.heap[w.heap.size]? = some (.cells #[.int .i64 ((sd + 60) * 86400 + (3600 * h + 60 * mi + se - 60 * (60 * oh + om))), .int .i64 na] 84 (0, 0))) := Lib.hid ((hb.block w.heap.size (heap_lt HRs.out)).trans HRs.out)
              have HB2 : Hid (Below w.heap.size w x2) := Lib.hid (HBs.out.trans (hb.mono HBs.out.size))
              clear hb r0 r1 g0 g1 c0 c1
              have r0 : x2.cell? ⟨w.heap.size, 0, none⟩ = some (.int .i64 ((sd + 60) * 86400 + (3600 * h + 60 * mi + se - 60 * (60 * oh + om)))) := (Lib.cell_of_heap HR2.out 0).trans rfl
              have r1 : x2.cell? ⟨w.heap.size, 1, none⟩ = some (.int .i64 na) := (Lib.cell_of_heap HR2.out 1).trans rfl
              have g0 : x2.frozen? ⟨w.heap.size, 0, none⟩ = false := Lib.frozen_of_heap HR2.out 0
              have g1 : x2.frozen? ⟨w.heap.size, 1, none⟩ = false := Lib.frozen_of_heap HR2.out 1
              go_wp2_with fail
              rw [jump_ret]
              refine bodyPost_ret (v := .tuple #[.agg #[.int .i64 ((sd + 60) * 86400 + (3600 * h + 60 * mi + se - 60 * (60 * oh + om))), .int .i64 na], .int .i64 0]) (by simp [results, Tryz.results50, go_sem, r0, r1, g0, g1]; try rfl) rfl ?_
              exact ⟨by rw [HG.out], (HB2.out.setCell (p := ⟨w.heap.size, 0, none⟩) (Nat.le_refl w.heap.size) _).setCell (p := ⟨w.heap.size, 1, none⟩) (Nat.le_refl w.heap.size) _⟩
    · have hs2 : sE.toList.isEmpty = false := by simpa using hsE
      have HG := Lib.hid (hno (by simp [hsE]))
      clear hno
      go_wp2_with fail
      go_step3
      go_wp2_with fail
      refine goto_jump ?_
      go_wp2_with fail
      rw [Exit.noGoto_ret]
      refine bodyPost_ret (v := .tuple #[.agg #[.int .i64 0, .int .i64 0], .int .i64 120]) (by simp [results, Tryz.results50, go_sem, r0, r1, g0, g1]; try rfl) rfl ?_
      exact ⟨by rw [HG.out], (HB16.out.setCell (p := ⟨w.heap.size, 0, none⟩) (Nat.le_refl w.heap.size) _).setCell (p := ⟨w.heap.size, 1, none⟩) (Nat.le_refl w.heap.size) _⟩
end Go.Proofs.YtjhgiojmlkeccaaGreatDoor
