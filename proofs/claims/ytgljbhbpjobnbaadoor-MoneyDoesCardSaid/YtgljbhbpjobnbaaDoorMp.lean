/- Decimals, plainly: what one's text is, what a text tells, sums and the order: on integers and lists of bytes. No program in sight. -/
import Derived.Test.YtgljbhbpjobnbaaDoorRp
import Derived.Lib.CutLaws
set_option linter.unusedSimpArgs false
set_option linter.unusedVariables false
namespace Go.Proofs.YtgljbhbpjobnbaaDoor
open Go.RowKit Go.Lib

/-! ### Cut at a point -/
def front (l : List UInt8) : List UInt8 := l.takeWhile (· != 46)
def back (l : List UInt8) : List UInt8 := (l.dropWhile (· != 46)).tail
def point (l : List UInt8) : Bool := l.contains 46
theorem index_point (l : List UInt8) : Lib.index l [46] = if point l then ((front l).length : Int) else -1 := by
  induction l with
  | nil => rfl
  | cons b l ih =>
    have hp : ([46] : List UInt8).isPrefixOf (b :: l) = (b == 46) := by
      simp only [List.isPrefixOf, Bool.and_true]
      rw [Bool.eq_iff_iff]; simp only [beq_iff_eq]; exact eq_comm
    rw [Lib.index, hp, ih]
    by_cases hb : b = 46
    · subst hb; simp [point, front]
    · have h1 : (b == 46) = false := by simpa using hb
      have h2 : point (b :: l) = point l := by
        simp only [point, List.contains_cons]
        have : ((46 : UInt8) == b) = false := by simpa using fun e => hb e.symm
        rw [this]; rfl
      have h3 : (front (b :: l)).length = (front l).length + 1 := by
        simp only [front]; rw [List.takeWhile_cons_of_pos (by simpa using hb)]; rfl
      rw [h1, h2, h3]
      cases hpl : point l
      · rfl
      · have : (((front l).length : Int) == -1) = false := by rw [beq_eq_false_iff_ne]; omega
        simp only [if_true, Bool.false_eq_true, if_false, this]; omega
theorem front_back (l : List UInt8) (h : point l = true) : l = front l ++ 46 :: back l := by
  have hl := List.takeWhile_append_dropWhile (p := (· != 46)) (l := l)
  cases hd : l.dropWhile (· != 46) with
  | nil =>
    exfalso
    rw [hd, List.append_nil] at hl
    have hm : (46 : UInt8) ∈ l := by simpa [point] using h
    rw [← hl] at hm
    have := List.all_eq_true.1 (List.all_takeWhile (p := (· != 46)) (l := l)) 46 hm
    simp at this
  | cons c r =>
    have hc : c = 46 := by
      have := List.head_dropWhile_not (p := (· != 46)) (l := l) (by rw [hd]; simp)
      simp only [hd, List.head_cons] at this
      simpa using this
    rw [hd, hc] at hl
    unfold front back
    rw [hd]
    exact hl.symm
theorem front_none (l : List UInt8) (h : point l = false) : front l = l ∧ back l = [] := by
  have hm : ∀ x ∈ l, (x != 46) = true := fun x hx => by
    simp only [bne_iff_ne, ne_eq]; rintro rfl
    simp [point] at h; exact h hx
  have hd : l.dropWhile (· != 46) = [] := dropWhile_all (List.all_eq_true.2 hm)
  have hl := List.takeWhile_append_dropWhile (p := (· != 46)) (l := l)
  rw [hd, List.append_nil] at hl
  refine ⟨hl, ?_⟩
  unfold back
  rw [hd]; rfl
theorem cut_point (l : List UInt8) : Lib.cut l [46] = (front l, back l, point l) := by
  unfold Lib.cut
  rw [index_point]
  cases h : point l
  · obtain ⟨h1, h2⟩ := front_none l h
    rw [h1, h2]; rfl
  · simp only [if_true]
    rw [if_pos (by omega)]
    have hl := front_back l h
    have e1 : l.take (front l).length = front l := by
      conv => lhs; rw [hl]
      have : front (front l ++ 46 :: back l) = front l := by rw [← hl]
      rw [this, List.take_left']
      rfl
    have e2 : l.drop ((front l).length + 1) = back l := by
      conv => lhs; rw [hl]
      have : front (front l ++ 46 :: back l) = front l := by rw [← hl]
      rw [this, List.drop_append]
      simp
    simp only [Int.toNat_natCast, List.length_cons, List.length_nil, Nat.zero_add]
    rw [e1, e2]
/-! ### In one way -/
/-- A mantissa and a scale, in one way: no nought at the end behind the point. -/
def norm : Nat → Int → Int × Nat
  | 0, n => (n, 0)
  | s + 1, n => if n % 10 = 0 then norm s (n / 10) else (n, s + 1)
def may (m : Int) (s : Int) : Bool := decide (0 ≤ s ∧ s ≤ 18 ∧ (s = 0 ∨ ¬ m % 10 = 0))
def chk (m : Int) (s : Int) : Int := if may m s then 0 else 140
theorem norm_le : ∀ (s : Nat) (n : Int), (norm s n).2 ≤ s
  | 0, n => Nat.le_refl 0
  | s + 1, n => by
    rw [norm]; split
    · exact Nat.le_succ_of_le (norm_le s _)
    · exact Nat.le_refl _
theorem norm_zero : ∀ (s : Nat), norm s 0 = (0, 0)
  | 0 => rfl
  | s + 1 => by rw [norm, if_pos (by decide)]; exact norm_zero s
theorem norm_last : ∀ (s : Nat) (n : Int), (norm s n).2 = 0 ∨ ¬ (norm s n).1 % 10 = 0
  | 0, n => .inl rfl
  | s + 1, n => by
    rw [norm]; split
    · exact norm_last s _
    · rename_i h; exact .inr h
theorem norm_may (s : Nat) (n : Int) (h : s ≤ 18) : may (norm s n).1 (norm s n).2 = true := by
  have h1 := norm_le s n
  have h2 := norm_last s n
  unfold may; rw [decide_eq_true_eq]
  refine ⟨by omega, by omega, ?_⟩
  rcases h2 with h2 | h2
  · left; omega
  · exact .inr h2
theorem norm_val : ∀ (s : Nat) (n : Int), n = (norm s n).1 * 10 ^ (s - (norm s n).2)
  | 0, n => by simp [norm]
  | s + 1, n => by
    have hle := norm_le s (n / 10)
    rw [norm]; split
    · rename_i h
      have ih := norm_val s (n / 10)
      rw [show s + 1 - (norm s (n / 10)).2 = (s - (norm s (n / 10)).2) + 1 by omega, Int.pow_succ, ← Int.mul_assoc, ← ih]
      omega
    · simp
theorem norm_id (m : Int) (s : Nat) (h : may m s = true) : norm s m = (m, s) := by
  unfold may at h; rw [decide_eq_true_eq] at h
  cases s with
  | zero => rfl
  | succ s =>
    rw [norm, if_neg]
    rcases h.2.2 with h1 | h1
    · omega
    · exact h1
theorem norm_scale (s : Nat) (n : Int) : ∀ k : Nat, norm (s + k) (n * 10 ^ k) = norm s n
  | 0 => by simp
  | k + 1 => by
    rw [show s + (k + 1) = (s + k) + 1 from rfl, norm, if_pos (by rw [Int.pow_succ, ← Int.mul_assoc]; exact Int.mul_emod_left _ _), Int.pow_succ, ← Int.mul_assoc, Int.mul_ediv_cancel _ (by decide)]
    exact norm_scale s n k
theorem norm_neg : ∀ (s : Nat) (n : Int), norm s (-n) = (-(norm s n).1, (norm s n).2)
  | 0, n => rfl
  | s + 1, n => by
    rw [norm, norm]
    by_cases h : n % 10 = 0
    · rw [if_pos h, if_pos (by omega), show -n / 10 = -(n / 10) by omega]
      exact norm_neg s _
    · rw [if_neg h, if_neg (by omega)]
theorem norm_abs : ∀ (s : Nat) (n : Int), (norm s n).1.natAbs ≤ n.natAbs
  | 0, n => Nat.le_refl _
  | s + 1, n => by
    rw [norm]; split
    · exact Nat.le_trans (norm_abs s _) (by omega)
    · exact Nat.le_refl _
theorem norm_sign : ∀ (s : Nat) (n : Int), (n < 0 → (norm s n).1 < 0) ∧ (0 ≤ n → 0 ≤ (norm s n).1)
  | 0, n => ⟨fun h => h, fun h => h⟩
  | s + 1, n => by
    rw [norm]; split
    · have ih := norm_sign s (n / 10)
      exact ⟨fun h => ih.1 (by omega), fun h => ih.2 (by omega)⟩
    · exact ⟨fun h => h, fun h => h⟩
theorem norm_R (s : Nat) (n : Int) (h : R n) : R (norm s n).1 := by
  have h1 := norm_abs s n
  have h2 := norm_sign s n
  unfold R at *
  by_cases hn : n < 0
  · have := h2.1 hn; omega
  · have := h2.2 (by omega); omega
/-! ### The order, and sums -/
/-- A Decimal at the greatest scale. -/
def scl (m : Int) (s : Int) : Int := m * 10 ^ (18 - s.toNat)
def cmpI (a b : Int) : Int := if a < b then -1 else if a = b then 0 else 1
theorem may_bd {m s : Int} (h : may m s = true) : 0 ≤ s ∧ s ≤ 18 := by unfold may at h; rw [decide_eq_true_eq] at h; omega
theorem norm_scl {m s : Int} (h : may m s = true) : norm 18 (scl m s) = (m, s.toNat) := by
  obtain ⟨h0, h1⟩ := may_bd h
  obtain ⟨k, rfl⟩ := Int.eq_ofNat_of_zero_le h0
  have e := norm_scale k m (18 - k)
  rw [show k + (18 - k) = 18 by omega] at e
  unfold scl
  rw [Int.toNat_natCast, e]
  exact norm_id m k h
theorem scl_inj {m s n t : Int} (h : may m s = true) (k : may n t = true) (e : scl m s = scl n t) : m = n ∧ s = t := by
  have h1 := norm_scl h
  have h2 := norm_scl k
  rw [e, h2] at h1
  simp only [Prod.mk.injEq] at h1
  have := may_bd h; have := may_bd k
  exact ⟨h1.1.symm, by omega⟩
theorem cmpI_neg (a b : Int) : cmpI b a = -cmpI a b := by
  unfold cmpI
  rcases Int.lt_trichotomy a b with h | h | h
  · rw [if_neg (by omega), if_neg (by omega), if_pos h]; rfl
  · subst h; simp
  · rw [if_pos h, if_neg (by omega), if_neg (by omega)]
theorem cmpI_zero (a b : Int) : cmpI a b = 0 ↔ a = b := by
  unfold cmpI
  rcases Int.lt_trichotomy a b with h | h | h
  · rw [if_pos h]; constructor <;> intro q <;> omega
  · subst h; simp
  · rw [if_neg (by omega), if_neg (by omega)]; constructor <;> intro q <;> omega
theorem cmpI_le (a b : Int) : cmpI a b ≤ 0 ↔ a ≤ b := by
  unfold cmpI
  rcases Int.lt_trichotomy a b with h | h | h
  · rw [if_pos h]; constructor <;> intro q <;> omega
  · subst h; simp
  · rw [if_neg (by omega), if_neg (by omega)]; constructor <;> intro q <;> omega
theorem cmpI_val (a b : Int) : (cmpI a b = -1 ∧ a < b) ∨ (cmpI a b = 0 ∧ a = b) ∨ (cmpI a b = 1 ∧ b < a) := by
  unfold cmpI
  rcases Int.lt_trichotomy a b with h | h | h
  · left; rw [if_pos h]; exact ⟨rfl, h⟩
  · right; left; subst h; simp
  · right; right; rw [if_neg (by omega), if_neg (by omega)]; exact ⟨rfl, h⟩
theorem cmpI_trans (a b c : Int) (h1 : cmpI a b ≤ 0) (h2 : cmpI b c ≤ 0) : cmpI a c = min (cmpI a b) (cmpI b c) := by
  rcases cmpI_val a b with ⟨e1, l1⟩ | ⟨e1, l1⟩ | ⟨e1, l1⟩ <;> rcases cmpI_val b c with ⟨e2, l2⟩ | ⟨e2, l2⟩ | ⟨e2, l2⟩ <;> rcases cmpI_val a c with ⟨e3, l3⟩ | ⟨e3, l3⟩ | ⟨e3, l3⟩ <;> rw [e1, e2, e3] <;> first | rfl | omega
theorem cmpI_add (a b c : Int) : cmpI (a + c) (b + c) = cmpI a b := by
  rcases cmpI_val a b with ⟨e1, l1⟩ | ⟨e1, l1⟩ | ⟨e1, l1⟩ <;> rcases cmpI_val (a + c) (b + c) with ⟨e2, l2⟩ | ⟨e2, l2⟩ | ⟨e2, l2⟩ <;> rw [e1, e2] <;> omega
/-- A sum: mantissa, scale and error. -/
def sumN (a s b t : Int) : Int × Nat := norm 18 (scl a s + scl b t)
def addOk (a s b t : Int) : Bool := may a s && may b t && inR (sumN a s b t).1
def addM (a s b t : Int) : Int := if addOk a s b t then (sumN a s b t).1 else 0
def addS (a s b t : Int) : Int := if addOk a s b t then (sumN a s b t).2 else 0
def addE (a s b t : Int) : Int := if may a s && may b t then (if inR (sumN a s b t).1 then 0 else 20) else 140
def cmpV (a s b t : Int) : Int := if may a s && may b t then cmpI (scl a s) (scl b t) else 0
def cmpE (a s b t : Int) : Int := if may a s && may b t then 0 else 140
theorem add_comm' (a s b t : Int) : addM a s b t = addM b t a s ∧ addS a s b t = addS b t a s ∧ addE a s b t = addE b t a s := by
  have h : sumN a s b t = sumN b t a s := by unfold sumN; rw [Int.add_comm]
  have h2 : addOk a s b t = addOk b t a s := by unfold addOk; rw [h, Bool.and_comm (may a s)]
  unfold addM addS addE
  rw [h2, h, Bool.and_comm (may a s)]
  exact ⟨rfl, rfl, rfl⟩
theorem add_ok_iff (a s b t : Int) : addE a s b t = 0 ↔ addOk a s b t = true := by
  unfold addE addOk
  cases may a s <;> cases may b t <;> cases inR (sumN a s b t).1 <;> simp
theorem add_may {a s b t : Int} (h : addOk a s b t = true) : may (addM a s b t) (addS a s b t) = true := by
  unfold addM addS; rw [h]; exact norm_may _ _ (by decide)
theorem add_scl {a s b t : Int} (h : addOk a s b t = true) : scl (addM a s b t) (addS a s b t) = scl a s + scl b t := by
  unfold addM addS; rw [h]
  simp only [if_true]
  have := norm_val 18 (scl a s + scl b t)
  unfold scl at this ⊢
  rw [Int.toNat_natCast]
  exact this.symm
theorem add_zero' {a s : Int} (hr : R a) (h : may a s = true) : addM a s 0 0 = a ∧ addS a s 0 0 = s ∧ addE a s 0 0 = 0 := by
  have h0 : may 0 0 = true := by decide
  have e : sumN a s 0 0 = (a, s.toNat) := by
    unfold sumN
    rw [show scl 0 0 = 0 from by unfold scl; rw [Int.zero_mul], Int.add_zero]; exact norm_scl h
  have hok : addOk a s 0 0 = true := by unfold addOk; rw [h, h0, e]; simp only [Bool.true_and]; exact (inR_iff _).2 hr
  have hb := may_bd h
  refine ⟨by unfold addM; rw [hok, e]; rfl, by unfold addS; rw [hok, e]; simp; omega, (add_ok_iff _ _ _ _).2 hok⟩
theorem add_neg' (a s b t : Int) (h : addOk a s b t = true) (h1 : ¬ addM a s b t = -9223372036854775808) :
    addOk (-a) s (-b) t = true ∧ addM (-a) s (-b) t = -addM a s b t ∧ addS (-a) s (-b) t = addS a s b t := by
  have hm : ∀ m s, may (-m) s = may m s := fun m s => by
    unfold may; rw [decide_eq_decide]; omega
  have e : sumN (-a) s (-b) t = (-(sumN a s b t).1, (sumN a s b t).2) := by
    unfold sumN
    rw [show scl (-a) s + scl (-b) t = -(scl a s + scl b t) from by unfold scl; rw [Int.neg_mul, Int.neg_mul, Int.neg_add], norm_neg]
  have hM : addM a s b t = (sumN a s b t).1 := by unfold addM; rw [h]; rfl
  have hr : R (sumN a s b t).1 := by
    unfold addOk at h; simp only [Bool.and_eq_true] at h
    exact (inR_iff _).1 h.2
  have hok : addOk (-a) s (-b) t = true := by
    unfold addOk at h ⊢
    simp only [Bool.and_eq_true] at h
    rw [hm, hm, e, h.1.1, h.1.2]
    simp only [Bool.true_and]
    rw [inR_iff]
    rw [hM] at h1
    unfold R at hr ⊢; omega
  refine ⟨hok, ?_, ?_⟩
  · unfold addM; rw [hok, h, e]; rfl
  · unfold addS; rw [hok, h, e]
/-! ### Text -/
def pad (m : Int) (s : Nat) : List UInt8 := List.replicate (s + 1 - (Lib.decDigits m.natAbs).length) 48 ++ Lib.decDigits m.natAbs
def txt (m : Int) (s : Nat) : List UInt8 :=
  (if m < 0 then [45] else []) ++ (if s = 0 then pad m s else (pad m s).take ((pad m s).length - s) ++ 46 :: (pad m s).drop ((pad m s).length - s))
/-! ### What a text tells -/
def okBack (l : List UInt8) : Bool := digitsB l && decide (l.length ≤ 18)
def pOk (d : List UInt8) : Bool := okDigits (front d) && (!point d || okBack (back d))
def pN (l : List UInt8) : Int := if below l then -(num (front (body l) ++ back (body l)) : Int) else num (front (body l) ++ back (body l))
def parseOk (l : List UInt8) : Bool := pOk (body l) && inR (pN l)
def pM (l : List UInt8) : Int := if parseOk l then (norm (back (body l)).length (pN l)).1 else 0
def pS (l : List UInt8) : Int := if parseOk l then (norm (back (body l)).length (pN l)).2 else 0
def pE (l : List UInt8) : Int := if parseOk l then 0 else 140
/-! ### A text that one has tells it -/
theorem dig_point {c : UInt8} (h : isDig c = true) : (c != 46) = true := by
  simp only [isDig, decide_eq_true_eq] at h
  simp only [bne_iff_ne, ne_eq]; rintro rfl
  exact absurd h.1 (by decide)
theorem dig_dash {c : UInt8} (h : isDig c = true) : (c == 45) = false := by
  simp only [isDig, decide_eq_true_eq] at h
  rw [beq_eq_false_iff_ne]; rintro rfl
  exact absurd h.1 (by decide)
theorem front_dig (f : List UInt8) (h : f.all isDig = true) : front f = f ∧ back f = [] ∧ point f = false := by
  have hp : point f = false := by
    unfold point
    rw [Bool.eq_false_iff]
    intro hc
    have := dig_point (List.all_eq_true.1 h 46 (by simpa using hc))
    simp at this
  exact ⟨(front_none f hp).1, (front_none f hp).2, hp⟩
theorem front_app (f b : List UInt8) (h : f.all isDig = true) : front (f ++ 46 :: b) = f ∧ back (f ++ 46 :: b) = b ∧ point (f ++ 46 :: b) = true := by
  have hm : ∀ x ∈ f, (x != 46) = true := fun x hx => dig_point (List.all_eq_true.1 h x hx)
  refine ⟨?_, ?_, ?_⟩
  · unfold front
    rw [List.takeWhile_append_of_pos hm]
    simp
  · unfold back
    rw [List.dropWhile_append_of_pos hm]
    simp
  · unfold point; simp
theorem num_zeros (k : Nat) (l : List UInt8) : num (List.replicate k 48 ++ l) = num l := by
  induction k with
  | zero => rfl
  | succ k ih => rw [List.replicate_succ, List.cons_append, num, numFrom_cons]; exact ih
theorem num_zeros_right (l : List UInt8) : ∀ k : Nat, num (l ++ List.replicate k 48) = num l * 10 ^ k
  | 0 => by simp
  | k + 1 => by
    rw [List.replicate_succ', ← List.append_assoc, num_snoc, num_zeros_right l k, Nat.pow_succ, Nat.mul_assoc]; rfl
theorem num_lt (l : List UInt8) (h : l.all isDig = true) : num l < 10 ^ l.length := by
  suffices H : ∀ n : Nat, ∀ l : List UInt8, l.length = n → l.all isDig = true → num l < 10 ^ n from H _ l rfl h
  intro n
  induction n with
  | zero => intro l hl _; rw [List.length_eq_zero_iff.1 hl]; decide
  | succ n ih =>
    intro l hl h
    have hne : l ≠ [] := by intro e; rw [e] at hl; simp at hl
    obtain ⟨m, c, rfl⟩ : ∃ m c, l = m ++ [c] := ⟨l.dropLast, l.getLast hne, (List.dropLast_concat_getLast hne).symm⟩
    simp only [List.all_append, List.all_cons, List.all_nil, Bool.and_true, Bool.and_eq_true] at h
    have h1 := ih m (by simpa using hl) h.1
    have h2 := h.2
    simp only [isDig, decide_eq_true_eq] at h2
    rw [num_snoc, dv, Nat.pow_succ]
    omega
theorem dec_len (u : Nat) : ∀ j : Nat, 1 ≤ j → u < 10 ^ j → (Lib.decDigits u).length ≤ j := by
  induction u using Nat.strongRecOn with
  | _ u ih =>
    intro j hj hu
    rw [Lib.decDigits]
    by_cases h : u < 10
    · rw [dif_pos h]; simpa using hj
    · rw [dif_neg h]
      obtain ⟨i, rfl⟩ : ∃ i, j = i + 1 := ⟨j - 1, by omega⟩
      rw [Nat.pow_succ] at hu
      have hi : 1 ≤ i := by
        rcases Nat.eq_zero_or_pos i with h0 | h0
        · subst h0; simp at hu; omega
        · exact h0
      have := ih (u / 10) (by omega) i hi (by omega)
      simp; omega
theorem all_zeros (k : Nat) : (List.replicate k (48 : UInt8)).all isDig = true := by
  rw [List.all_eq_true]; intro x hx; rw [(List.mem_replicate.1 hx).2]; decide
theorem pad_all (m : Int) (s : Nat) : (pad m s).all isDig = true := by
  unfold pad; rw [List.all_append, all_zeros, (dec_all _).1]; rfl
theorem pad_num (m : Int) (s : Nat) : num (pad m s) = m.natAbs := by
  unfold pad; rw [num_zeros, (dec_all _).2.2]
theorem pad_len (m : Int) (s : Nat) : (pad m s).length = (if (Lib.decDigits m.natAbs).length ≤ s then s + 1 else (Lib.decDigits m.natAbs).length) := by
  unfold pad; rw [List.length_append, List.length_replicate]; split <;> omega
theorem dec_pos (u : Nat) : 1 ≤ (Lib.decDigits u).length := List.length_pos_iff.2 (dec_all u).2.1
theorem okDigits_take (l : List UInt8) (h : okDigits l = true) (k : Nat) (hk : 1 ≤ k) : okDigits (l.take k) = true := by
  obtain ⟨c, r, rfl⟩ : ∃ c r, l = c :: r := by
    cases l with
    | nil => exact absurd h (by decide)
    | cons c r => exact ⟨c, r, rfl⟩
  obtain ⟨k, rfl⟩ : ∃ i, k = i + 1 := ⟨k - 1, by omega⟩
  simp only [okDigits, digitsB, Bool.and_eq_true, List.all_cons, List.take_succ_cons, List.isEmpty_cons, Bool.not_false, and_true, List.head?_cons, List.length_cons, Bool.not_eq_true', Bool.and_eq_false_iff] at h ⊢
  obtain ⟨⟨h1, h2⟩, h3⟩ := h
  refine ⟨⟨h1, ?_⟩, ?_⟩
  · exact List.all_eq_true.2 fun x hx => List.all_eq_true.1 h2 x (List.mem_of_mem_take hx)
  · rcases h3 with h3 | h3
    · exact .inl h3
    · right
      have h3' := of_decide_eq_false h3
      have h4 : (List.take k r).length ≤ r.length := List.length_take_le' k r
      exact decide_eq_false (show ¬ 1 < (List.take k r).length + 1 by change ¬ 1 < r.length + 1 at h3'; omega)
/-- What stands behind the sign. -/
def core (m : Int) (s : Nat) : List UInt8 := if s = 0 then pad m s else (pad m s).take ((pad m s).length - s) ++ 46 :: (pad m s).drop ((pad m s).length - s)
theorem core_head (m : Int) (s : Nat) : below (core m s) = false := by
  have h := pad_all m s
  have hne : pad m s ≠ [] := by
    have := pad_len m s
    intro e; rw [e] at this
    have := dec_pos m.natAbs
    split at * <;> simp at * <;> omega
  have hl := pad_len m s
  have hd := dec_pos m.natAbs
  obtain ⟨c, r, hp⟩ : ∃ c r, pad m s = c :: r := by
    cases hp : pad m s with
    | nil => exact absurd hp hne
    | cons c r => exact ⟨c, r, rfl⟩
  rw [hp] at h
  simp only [List.all_cons, Bool.and_eq_true] at h
  unfold core
  split
  · rw [hp]; exact dig_dash h.1
  · have : 1 ≤ (pad m s).length - s := by split at hl <;> omega
    obtain ⟨j, hj⟩ : ∃ j, (pad m s).length - s = j + 1 := ⟨(pad m s).length - s - 1, by omega⟩
    rw [hj, hp]; exact dig_dash h.1
theorem txt_body (m : Int) (s : Nat) : below (txt m s) = decide (m < 0) ∧ body (txt m s) = core m s := by
  have hc := core_head m s
  have e : txt m s = (if m < 0 then [45] else []) ++ core m s := rfl
  by_cases h : m < 0
  · rw [e, if_pos h, decide_eq_true h]
    exact ⟨rfl, rfl⟩
  · rw [e, if_neg h, decide_eq_false h, List.nil_append]
    refine ⟨hc, ?_⟩
    unfold body; rw [hc]; rfl
/-- The text's parts. -/
theorem core_parts (m : Int) (s : Nat) : okDigits (front (core m s)) = true ∧ (back (core m s)).all isDig = true ∧ (back (core m s)).length = s ∧ point (core m s) = decide (0 < s) ∧ num (front (core m s) ++ back (core m s)) = m.natAbs := by
  have ha := pad_all m s
  have hl := pad_len m s
  have hd := dec_pos m.natAbs
  unfold core
  by_cases h : s = 0
  · subst h
    rw [if_pos rfl]
    obtain ⟨h1, h2, h3⟩ := front_dig _ ha
    rw [h1, h2, h3, List.append_nil, pad_num]
    refine ⟨?_, rfl, rfl, rfl, rfl⟩
    have : pad m 0 = Lib.decDigits m.natAbs := by unfold pad; rw [show 0 + 1 - (Lib.decDigits m.natAbs).length = 0 by omega]; rfl
    rw [this]; exact dec_ok _
  · rw [if_neg h]
    have hf : ((pad m s).take ((pad m s).length - s)).all isDig = true := List.all_eq_true.2 fun x hx => List.all_eq_true.1 ha x (List.mem_of_mem_take hx)
    obtain ⟨h1, h2, h3⟩ := front_app _ ((pad m s).drop ((pad m s).length - s)) hf
    rw [h1, h2, h3, List.take_append_drop, pad_num]
    refine ⟨?_, List.all_eq_true.2 fun x hx => List.all_eq_true.1 ha x (List.mem_of_mem_drop hx), ?_, (decide_eq_true (by omega)).symm, rfl⟩
    · by_cases hs : (Lib.decDigits m.natAbs).length ≤ s
      · rw [if_pos hs] at hl
        rw [hl, show s + 1 - s = 1 by omega]
        obtain ⟨j, hj⟩ : ∃ j, s + 1 - (Lib.decDigits m.natAbs).length = j + 1 := ⟨s - (Lib.decDigits m.natAbs).length, by omega⟩
        unfold pad
        rw [hj, List.replicate_succ, List.cons_append, List.take_succ_cons, List.take_zero]
        decide
      · have e : pad m s = Lib.decDigits m.natAbs := by unfold pad; rw [show s + 1 - (Lib.decDigits m.natAbs).length = 0 by omega]; rfl
        rw [e]
        exact okDigits_take _ (dec_ok _) _ (by omega)
    · rw [List.length_drop]
      split at hl <;> omega
theorem abs_sign (m : Int) : (if decide (m < 0) = true then -(m.natAbs : Int) else (m.natAbs : Int)) = m := by
  by_cases h : m < 0
  · rw [decide_eq_true h]; simp only [if_true]; omega
  · rw [decide_eq_false h]; simp only [Bool.false_eq_true, if_false]; omega
theorem txt_parse (m : Int) (s : Nat) (hr : R m) (h : may m s = true) : parseOk (txt m s) = true ∧ pN (txt m s) = m ∧ (back (body (txt m s))).length = s := by
  obtain ⟨h1, h2⟩ := txt_body m s
  obtain ⟨p1, p2, p3, p4, p5⟩ := core_parts m s
  have hb := may_bd h
  have hN : pN (txt m s) = m := by unfold pN; rw [h1, h2, p5]; exact abs_sign m
  refine ⟨?_, hN, by rw [h2, p3]⟩
  unfold parseOk pOk
  rw [hN, (inR_iff m).2 hr, h2, p1, p4]
  simp only [Bool.true_and, Bool.and_true, Bool.or_eq_true, Bool.not_eq_true']
  by_cases hs : 0 < s
  · right
    unfold okBack digitsB
    rw [p2, p3]
    have : (back (core m s)).isEmpty = false := by
      rw [List.isEmpty_eq_false_iff]; intro e; rw [e] at p3; simp at p3; omega
    rw [this]; simp; omega
  · left; simpa using hs
/-- THE STAGE'S THEOREM: a Decimal's text tells it. -/
theorem parse_txt (m : Int) (s : Nat) (hr : R m) (h : may m s = true) : pM (txt m s) = m ∧ pS (txt m s) = s ∧ pE (txt m s) = 0 := by
  obtain ⟨h1, h2, h3⟩ := txt_parse m s hr h
  unfold pM pS pE
  rw [h1, h2, h3, norm_id m s h]
  exact ⟨rfl, rfl, rfl⟩
theorem txt_len (m : Int) (s : Nat) : (txt m s).length = (if m < 0 then 1 else 0) + (if (Lib.decDigits m.natAbs).length ≤ s then s + 1 else (Lib.decDigits m.natAbs).length) + (if s = 0 then 0 else 1) := by
  have hl := pad_len m s
  have e : txt m s = (if m < 0 then [45] else []) ++ core m s := rfl
  rw [e, List.length_append]
  have h1 : (if m < 0 then [45] else ([] : List UInt8)).length = (if m < 0 then 1 else 0) := by split <;> rfl
  have h2 : (core m s).length = (pad m s).length + (if s = 0 then 0 else 1) := by
    unfold core; split
    · rfl
    · rw [List.length_append, List.length_cons, List.length_take, List.length_drop]; omega
  rw [h1, h2, hl]; omega
theorem body_len (l : List UInt8) : l.length = (if below l then 1 else 0) + (body l).length := by
  unfold body
  cases l with
  | nil => rfl
  | cons c r => cases h : below (c :: r) <;> simp; omega
/-- What is read may be, and its text is no longer. -/
theorem parse_may (l : List UInt8) (h : parseOk l = true) : may (pM l) (pS l) = true ∧ R (pM l) ∧ (txt (pM l) (pS l).toNat).length ≤ l.length := by
  have hok := h
  unfold parseOk pOk at h
  simp only [Bool.and_eq_true, Bool.or_eq_true, Bool.not_eq_true'] at h
  obtain ⟨⟨hf, hb⟩, hr⟩ := h
  have hf' := hf
  simp only [okDigits, digitsB, Bool.and_eq_true, Bool.not_eq_true', List.isEmpty_eq_false_iff] at hf'
  have hfl : 1 ≤ (front (body l)).length := List.length_pos_iff.2 hf'.1.2
  have hball : (back (body l)).all isDig = true ∧ (back (body l)).length ≤ 18 ∧ (body l).length = (front (body l)).length + (back (body l)).length + (if (back (body l)).length = 0 then 0 else 1) := by
    rcases hb with hb | hb
    · obtain ⟨e1, e2⟩ := front_none _ hb
      rw [e2, e1]; exact ⟨rfl, by decide, by simp⟩
    · simp only [okBack, digitsB, Bool.and_eq_true, decide_eq_true_eq, Bool.not_eq_true', List.isEmpty_eq_false_iff] at hb
      have hpt : point (body l) = true := by
        cases hp : point (body l) with
        | true => rfl
        | false => exact absurd (front_none _ hp).2 hb.1.2
      have e := congrArg List.length (front_back _ hpt)
      rw [List.length_append, List.length_cons] at e
      have h1 : (back (body l)).length ≠ 0 := fun e => hb.1.2 (List.length_eq_zero_iff.1 e)
      refine ⟨hb.1.1, hb.2, ?_⟩
      rw [if_neg h1]; omega
  obtain ⟨hb1, hb2, hb3⟩ := hball
  have hM : pM l = (norm (back (body l)).length (pN l)).1 := by unfold pM; rw [hok]; rfl
  have hS : pS l = (norm (back (body l)).length (pN l)).2 := by unfold pS; rw [hok]; rfl
  have hle := norm_le (back (body l)).length (pN l)
  have hval := norm_val (back (body l)).length (pN l)
  have hsg := norm_sign (back (body l)).length (pN l)
  have hlt := num_lt (front (body l) ++ back (body l)) (by rw [List.all_append, hf'.1.1, hb1]; rfl)
  have habs : (pN l).natAbs = num (front (body l) ++ back (body l)) := by unfold pN; split <;> omega
  have hneg : pN l < 0 → below l = true := by
    intro hn
    cases hbl : below l with
    | true => rfl
    | false => unfold pN at hn; rw [hbl] at hn; simp at hn; omega
  rw [hM, hS]
  refine ⟨norm_may _ _ hb2, norm_R _ _ ((inR_iff _).1 hr), ?_⟩
  rw [Int.toNat_natCast, txt_len, body_len l, hb3]
  generalize hk : (back (body l)).length = k at *
  generalize hn : pN l = n at *
  generalize hmm : norm k n = y at *
  obtain ⟨m, t⟩ := y
  simp only at *
  have hdec : (Lib.decDigits m.natAbs).length ≤ (front (body l)).length + t := by
    apply dec_len _ _ (by omega)
    rw [← habs, hval, Int.natAbs_mul, Int.natAbs_pow, List.length_append, hk] at hlt
    rw [show (front (body l)).length + k = ((front (body l)).length + t) + (k - t) by omega, Nat.pow_add] at hlt
    exact Nat.lt_of_mul_lt_mul_right hlt
  have hs1 : (if m < 0 then 1 else 0) ≤ (if below l = true then 1 else 0 : Nat) := by
    by_cases hm : m < 0
    · have hn0 : n < 0 := by
        by_cases q : n < 0
        · exact q
        · exact absurd (hsg.2 (by omega)) (by omega)
      rw [if_pos hm, if_pos (hneg hn0)]; exact Nat.le_refl _
    · rw [if_neg hm]; exact Nat.zero_le _
  have hs2 : (if t = 0 then 0 else 1) ≤ (if k = 0 then 0 else 1 : Nat) := by
    by_cases ht : t = 0
    · rw [if_pos ht]; exact Nat.zero_le _
    · rw [if_neg ht, if_neg (by omega)]; exact Nat.le_refl _
  have hp : (if (Lib.decDigits m.natAbs).length ≤ t then t + 1 else (Lib.decDigits m.natAbs).length) ≤ (front (body l)).length + t := by
    split <;> omega
  omega
/-! ### Noughts -/
/-- A text with noughts behind its fraction. -/
def zeros (m : Int) (s n : Nat) : List UInt8 := txt m s ++ (if s = 0 then [46] else []) ++ List.replicate n 48
theorem zeros_parse (m : Int) (s n : Nat) (h : may m s = true) (hn : 1 ≤ n) (hs : s + n ≤ 18) :
    parseOk (zeros m s n) = inR (m * 10 ^ n) ∧ pN (zeros m s n) = m * 10 ^ n ∧ (back (body (zeros m s n))).length = s + n := by
  obtain ⟨p1, p2, p3, p4, p5⟩ := core_parts m s
  have hc := core_head m s
  have hp1 := p1
  simp only [okDigits, digitsB, Bool.and_eq_true] at hp1
  -- the text behind the sign
  have hcore : core m s ++ (if s = 0 then [46] else []) ++ List.replicate n 48 = front (core m s) ++ 46 :: (back (core m s) ++ List.replicate n 48) := by
    by_cases h0 : s = 0
    · have hb : back (core m s) = [] := List.length_eq_zero_iff.1 (by rw [p3, h0])
      have hpt : point (core m s) = false := by rw [p4, h0]; rfl
      rw [if_pos h0, hb, (front_none _ hpt).1]; simp
    · have hpt : point (core m s) = true := by rw [p4]; exact decide_eq_true (by omega)
      rw [if_neg h0, List.append_nil]
      conv => lhs; rw [front_back _ hpt]
      simp
  have hbz : (back (core m s) ++ List.replicate n 48).all isDig = true := by rw [List.all_append, p2, all_zeros]; rfl
  obtain ⟨f1, f2, f3⟩ := front_app (front (core m s)) (back (core m s) ++ List.replicate n 48) hp1.1.1
  have hbody : below (zeros m s n) = decide (m < 0) ∧ body (zeros m s n) = front (core m s) ++ 46 :: (back (core m s) ++ List.replicate n 48) := by
    have e : zeros m s n = (if m < 0 then [45] else []) ++ (front (core m s) ++ 46 :: (back (core m s) ++ List.replicate n 48)) := by
      rw [← hcore]; unfold zeros
      rw [show txt m s = (if m < 0 then [45] else []) ++ core m s from rfl]; simp
    have hh : below (front (core m s) ++ 46 :: (back (core m s) ++ List.replicate n 48)) = false := by
      cases hfc : front (core m s) with
      | nil => rw [hfc] at hp1; simp at hp1
      | cons c r =>
        rw [hfc] at hp1
        simp only [List.all_cons, Bool.and_eq_true] at hp1
        exact dig_dash hp1.1.1.1
    by_cases hm : m < 0
    · rw [e, if_pos hm, decide_eq_true hm]; exact ⟨rfl, rfl⟩
    · rw [e, if_neg hm, decide_eq_false hm, List.nil_append]
      refine ⟨hh, ?_⟩
      unfold body; rw [hh]; rfl
  obtain ⟨b1, b2⟩ := hbody
  have hnum : num (front (core m s) ++ (back (core m s) ++ List.replicate n 48)) = m.natAbs * 10 ^ n := by
    rw [← List.append_assoc, num_zeros_right, p5]
  have hN : pN (zeros m s n) = m * 10 ^ n := by
    unfold pN
    rw [b1, b2, f1, f2, hnum]
    have := abs_sign m
    by_cases hm : m < 0
    · rw [decide_eq_true hm] at this ⊢
      simp only [if_true] at this ⊢
      rw [Int.natCast_mul, Int.natCast_pow, ← Int.neg_mul, this]; rfl
    · rw [decide_eq_false hm] at this ⊢
      simp only [Bool.false_eq_true, if_false] at this ⊢
      rw [Int.natCast_mul, Int.natCast_pow, this]; rfl
  have hlen : (back (body (zeros m s n))).length = s + n := by rw [b2, f2, List.length_append, p3, List.length_replicate]
  refine ⟨?_, hN, hlen⟩
  unfold parseOk pOk
  rw [hN, b2, f1, f2, f3, p1]
  have : okBack (back (core m s) ++ List.replicate n 48) = true := by
    unfold okBack digitsB
    rw [hbz, List.length_append, p3, List.length_replicate]
    have h2 : (back (core m s) ++ List.replicate n 48).isEmpty = false := by
      rw [List.isEmpty_eq_false_iff]; intro e
      have := congrArg List.length e
      rw [List.length_append, List.length_replicate] at this; simp at this; omega
    rw [h2]; simp; exact hs
  rw [this]; simp
theorem zeros_tell (m : Int) (s n : Nat) (h : may m s = true) (hn : 1 ≤ n) (hs : s + n ≤ 18) :
    (R (m * 10 ^ n) → pM (zeros m s n) = m ∧ pS (zeros m s n) = s ∧ pE (zeros m s n) = 0) ∧ (¬ R (m * 10 ^ n) → pE (zeros m s n) = 140) := by
  obtain ⟨h1, h2, h3⟩ := zeros_parse m s n h hn hs
  constructor
  · intro hr
    have hok : parseOk (zeros m s n) = true := by rw [h1]; exact (inR_iff _).2 hr
    unfold pM pS pE
    rw [hok, h2, h3, norm_scale, norm_id m s h]
    exact ⟨rfl, rfl, rfl⟩
  · intro hr
    have hok : parseOk (zeros m s n) = false := by rw [h1, Bool.eq_false_iff]; exact fun e => hr ((inR_iff _).1 e)
    unfold pE; rw [hok]; rfl
end Go.Proofs.YtgljbhbpjobnbaaDoor
