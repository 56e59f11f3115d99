/- Texts, plainly: code points of bytes, as the document tells them (provostref01) and as Go's library decodes them. No program in sight. -/
import Derived.Lib.ValidLaws
set_option linter.unusedSimpArgs false
set_option linter.unusedVariables false
namespace Go.Proofs.YtpkkejcndmcbiaaGreatDoor
open Go.Lib
def isPt (n : Nat) : Bool := decide (n ≤ 1114111 ∧ (n < 55296 ∨ 57343 < n))
def encN (n : Nat) : List UInt8 :=
  if n < 128 then [UInt8.ofNat n] else if n < 2048 then [UInt8.ofNat (192 + n / 64), UInt8.ofNat (128 + n % 64)]
  else if n < 65536 then [UInt8.ofNat (224 + n / 4096), UInt8.ofNat (128 + n / 64 % 64), UInt8.ofNat (128 + n % 64)]
  else [UInt8.ofNat (240 + n / 262144), UInt8.ofNat (128 + n / 4096 % 64), UInt8.ofNat (128 + n / 64 % 64), UInt8.ofNat (128 + n % 64)]
/-- What the bytes of one code point would tell. -/
def numN : List UInt8 → Nat
  | [a] => a.toNat
  | [a, b] => 64 * (a.toNat % 32) + b.toNat % 64
  | [a, b, c] => 64 * (64 * (a.toNat % 16) + b.toNat % 64) + c.toNat % 64
  | [a, b, c, d] => 64 * (64 * (64 * (a.toNat % 8) + b.toNat % 64) + c.toNat % 64) + d.toNat % 64
  | _ => 0
def oneB (l : List UInt8) (k : Nat) : Bool := decide (k ≤ l.length) && (isPt (numN (l.take k)) && encN (numN (l.take k)) == l.take k)
theorem ofN (n : Nat) (h : n < 256) : (UInt8.ofNat n).toNat = n := by rw [UInt8.toNat_ofNat']; omega
theorem toN {x : UInt8} {n : Nat} (h : x.toNat = n) : UInt8.ofNat n = x := by rw [← h, UInt8.ofNat_toNat]
theorem enc_len (n : Nat) (h : isPt n = true) : (encN n).length = if n < 128 then 1 else if n < 2048 then 2 else if n < 65536 then 3 else 4 := by
  unfold encN; repeat' split
  all_goals first | rfl | omega
/-- The bytes of a code point are decoded as it. -/
theorem decode_enc (n : Nat) (h : isPt n = true) (t : List UInt8) : decodeL (encN n ++ t) = (n, (encN n).length) := by
  simp only [isPt, decide_eq_true_eq] at h
  rw [decodeL_N]
  unfold encN
  by_cases h1 : n < 128
  · rw [if_pos h1]
    simp only [List.cons_append, List.nil_append, List.getD_cons_zero, List.length_cons, List.length_nil]
    rw [ofN n (by omega)]
    unfold decodeN
    rw [if_pos h1]
  · rw [if_neg h1]
    by_cases h2 : n < 2048
    · rw [if_pos h2]
      simp only [List.cons_append, List.nil_append, List.getD_cons_zero, List.getD_cons_succ, List.length_cons, List.length_nil]
      rw [ofN _ (by omega), ofN _ (by omega)]
      unfold decodeN
      rw [if_neg (by omega), if_pos (by omega), if_pos (by omega)]
      exact Prod.ext (by show _ = n; omega) rfl
    · rw [if_neg h2]
      by_cases h3 : n < 65536
      · rw [if_pos h3]
        simp only [List.cons_append, List.nil_append, List.getD_cons_zero, List.getD_cons_succ, List.length_cons, List.length_nil]
        rw [ofN _ (by omega), ofN _ (by omega), ofN _ (by omega)]
        unfold decodeN
        rw [if_neg (by omega), if_neg (by omega), if_pos (by omega), if_pos (by omega)]
        exact Prod.ext (by show _ = n; omega) rfl
      · rw [if_neg h3]
        simp only [List.cons_append, List.nil_append, List.getD_cons_zero, List.getD_cons_succ, List.length_cons, List.length_nil]
        rw [ofN _ (by omega), ofN _ (by omega), ofN _ (by omega), ofN _ (by omega)]
        unfold decodeN
        rw [if_neg (by omega), if_neg (by omega), if_neg (by omega), if_pos (by omega), if_pos (by omega)]
        exact Prod.ext (by show _ = n; omega) rfl
theorem decode_one (l : List UInt8) (k : Nat) (h : oneB l k = true) : decodeL l = (numN (l.take k), k) := by
  simp only [oneB, Bool.and_eq_true, decide_eq_true_eq, beq_iff_eq] at h
  obtain ⟨h1, h2, h3⟩ := h
  have e : l = encN (numN (l.take k)) ++ l.drop k := by rw [h3, List.take_append_drop]
  have := decode_enc (numN (l.take k)) h2 (l.drop k)
  rw [← e, h3] at this
  rw [this, List.length_take, Nat.min_eq_left h1]
/-- What is decoded well is one code point's bytes. -/
theorem one_decode (l : List UInt8) (hne : l ≠ []) (hv : ¬ ((decodeL l).1 = 65533 ∧ (decodeL l).2 = 1)) : oneB l (decodeL l).2 = true ∧ numN (l.take (decodeL l).2) = (decodeL l).1 ∧ 1 ≤ (decodeL l).2 ∧ (decodeL l).2 ≤ 4 := by
  have hl : 0 < l.length := List.length_pos_iff.2 hne
  rw [decodeL_N] at hv ⊢
  have k0 := (l.getD 0 0).toNat_lt
  have k1 := (l.getD 1 0).toNat_lt
  have k2 := (l.getD 2 0).toNat_lt
  have k3 := (l.getD 3 0).toNat_lt
  rcases decodeN_shape l.length (l.getD 0 0).toNat (l.getD 1 0).toNat (l.getD 2 0).toNat (l.getD 3 0).toNat with ⟨c, e⟩ | ⟨c1, c2, c3, cv, e⟩ | ⟨c1, c2, c3, c4, cv, cs, e⟩ | ⟨c1, c2, c3, c4, c5, cv, cw, e⟩ | e
  · rw [e]
    dsimp only
    have hn : numN (l.take 1) = (l.getD 0 0).toNat := by rw [takeA l hl]; rfl
    refine ⟨?_, hn, by omega, by omega⟩
    unfold oneB
    rw [hn, takeA l hl, decide_eq_true (by omega)]
    simp only [Bool.true_and, Bool.and_eq_true, beq_iff_eq]
    refine ⟨by simp only [isPt, decide_eq_true_eq]; omega, ?_⟩
    unfold encN
    rw [if_pos c, toN rfl]
  · rw [e]
    dsimp only
    have hn : numN (l.take 2) = (l.getD 0 0).toNat % 32 * 64 + (l.getD 1 0).toNat % 64 := by rw [takeB l c2]; simp only [numN]; omega
    refine ⟨?_, hn, by omega, by omega⟩
    unfold oneB
    rw [hn, takeB l c2, decide_eq_true (by omega)]
    simp only [Bool.true_and, Bool.and_eq_true, beq_iff_eq]
    refine ⟨by simp only [isPt, decide_eq_true_eq]; omega, ?_⟩
    unfold encN
    rw [if_neg (by omega), if_pos (by omega), toN (x := l.getD 0 0) (by omega), toN (x := l.getD 1 0) (by omega)]
  · rw [e]
    dsimp only
    have hn : numN (l.take 3) = (l.getD 0 0).toNat % 16 * 4096 + (l.getD 1 0).toNat % 64 * 64 + (l.getD 2 0).toNat % 64 := by rw [takeC l c2]; simp only [numN]; omega
    refine ⟨?_, hn, by omega, by omega⟩
    unfold oneB
    rw [hn, takeC l c2, decide_eq_true (by omega)]
    simp only [Bool.true_and, Bool.and_eq_true, beq_iff_eq]
    refine ⟨by simp only [isPt, decide_eq_true_eq]; omega, ?_⟩
    unfold encN
    rw [if_neg (by omega), if_neg (by omega), if_pos (by omega), toN (x := l.getD 0 0) (by omega), toN (x := l.getD 1 0) (by omega), toN (x := l.getD 2 0) (by omega)]
  · rw [e]
    dsimp only
    have hn : numN (l.take 4) = (l.getD 0 0).toNat % 8 * 262144 + (l.getD 1 0).toNat % 64 * 4096 + (l.getD 2 0).toNat % 64 * 64 + (l.getD 3 0).toNat % 64 := by rw [takeD l c2]; simp only [numN]; omega
    refine ⟨?_, hn, by omega, by omega⟩
    unfold oneB
    rw [hn, takeD l c2, decide_eq_true (by omega)]
    simp only [Bool.true_and, Bool.and_eq_true, beq_iff_eq]
    refine ⟨by simp only [isPt, decide_eq_true_eq]; omega, ?_⟩
    unfold encN
    rw [if_neg (by omega), if_neg (by omega), if_neg (by omega), toN (x := l.getD 0 0) (by omega), toN (x := l.getD 1 0) (by omega), toN (x := l.getD 2 0) (by omega), toN (x := l.getD 3 0) (by omega)]
  · rw [e] at hv
    exact absurd ⟨rfl, rfl⟩ hv
/-- Is the first code point well? -/
def wellB (l : List UInt8) : Bool := !decide ((decodeL l).1 = 65533 ∧ (decodeL l).2 = 1)
/-- The sizes are tried in order: the first that fits is the decoded one's. -/
theorem one_iff (l : List UInt8) (hne : l ≠ []) (k : Nat) (hk : 1 ≤ k) (hk4 : k ≤ 4) : oneB l k = (wellB l && decide (k = (decodeL l).2)) := by
  by_cases hv : (decodeL l).1 = 65533 ∧ (decodeL l).2 = 1
  · have hw : wellB l = false := by unfold wellB; rw [decide_eq_true hv]; rfl
    rw [hw, Bool.false_and]
    cases h : oneB l k with
    | false => rfl
    | true =>
      exfalso
      have e := decode_one l k h
      rw [e] at hv
      obtain ⟨hv1, hv2⟩ := hv
      simp only at hv1 hv2
      subst hv2
      simp only [oneB, Bool.and_eq_true, beq_iff_eq] at h
      have := congrArg List.length h.2.2
      rw [hv1] at this
      rw [List.length_take] at this
      have h3 : (encN 65533).length = 3 := by decide
      omega
  · have hw : wellB l = true := by unfold wellB; rw [decide_eq_false hv]; rfl
    obtain ⟨g1, g2, g3, g4⟩ := one_decode l hne hv
    rw [hw, Bool.true_and]
    by_cases e : k = (decodeL l).2
    · rw [decide_eq_true e, e]; exact g1
    · rw [decide_eq_false e]
      cases h : oneB l k with
      | false => rfl
      | true => exact absurd (congrArg Prod.snd (decode_one l k h)).symm e
/-- A text's code points: how the document reads it. -/
theorem valid_step (l : List UInt8) (hne : l ≠ []) : validD l = (wellB l && validD (l.drop (decodeL l).2)) := by
  rw [validD_step l hne]
  unfold wellB
  by_cases h : (decodeL l).1 = 65533 ∧ (decodeL l).2 = 1
  · rw [if_pos h, decide_eq_true h]; rfl
  · rw [if_neg h, decide_eq_false h]; rfl
/-- The code points of a text. -/
def ptsGo : Nat → List UInt8 → List Nat
  | 0, _ => []
  | n + 1, l => if l = [] then [] else (decodeL l).1 :: ptsGo n (l.drop (decodeL l).2)
def pts (l : List UInt8) : List Nat := ptsGo l.length l
theorem ptsGo_nil : ∀ n, ptsGo n [] = []
  | 0 => rfl
  | n + 1 => by simp [ptsGo]
theorem ptsGo_fuel : ∀ (n m : Nat) (l : List UInt8), l.length ≤ n → l.length ≤ m → ptsGo n l = ptsGo m l
  | 0, m, l, hn, _ => by
    have : l = [] := List.eq_nil_of_length_eq_zero (by omega)
    subst this
    rw [ptsGo_nil, ptsGo_nil]
  | n + 1, 0, l, _, hm => by
    have : l = [] := List.eq_nil_of_length_eq_zero (by omega)
    subst this
    rw [ptsGo_nil, ptsGo_nil]
  | n + 1, m + 1, l, hn, hm => by
    unfold ptsGo
    by_cases hne : l = []
    · simp [hne]
    · have hw := decodeL_width l
      have hl : 0 < l.length := List.length_pos_iff.2 hne
      rw [if_neg hne, if_neg hne, ptsGo_fuel n m (l.drop (decodeL l).2) (by rw [List.length_drop]; omega) (by rw [List.length_drop]; omega)]
theorem pts_nil : pts [] = [] := rfl
theorem pts_step (l : List UInt8) (hne : l ≠ []) : pts l = (decodeL l).1 :: pts (l.drop (decodeL l).2) := by
  have hl : 0 < l.length := List.length_pos_iff.2 hne
  have hw := decodeL_width l
  obtain ⟨n, hn⟩ : ∃ n, l.length = n + 1 := ⟨l.length - 1, by omega⟩
  unfold pts
  rw [hn]
  show (if l = [] then [] else _) = _
  rw [if_neg hne, ptsGo_fuel n (l.drop (decodeL l).2).length _ (by rw [List.length_drop]; omega) (Nat.le_refl _)]
end Go.Proofs.YtpkkejcndmcbiaaGreatDoor
