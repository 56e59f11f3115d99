/- What JSON's reader leaves, plainly: a text stays a text, and it grows shorter. No program in sight. -/
import Derived.Test.YtglhanblbojkhaaGreatDoorJr
set_option linter.unusedSimpArgs false
set_option linter.unusedVariables false
namespace Go.Proofs.YtglhanblbojkhaaGreatDoor
open Go.Lib
/-- What is left of a text is a text, and no longer. -/
def Cut (l t : List UInt8) : Prop := t.length ≤ l.length ∧ (validD l = true → validD t = true)
theorem Cut.refl (l : List UInt8) : Cut l l := ⟨Nat.le_refl _, id⟩
theorem Cut.trans {l t u : List UInt8} (h : Cut l t) (h' : Cut t u) : Cut l u := ⟨Nat.le_trans h'.1 h.1, fun x => h'.2 (h.2 x)⟩
theorem decode_ascii (c : UInt8) (l : List UInt8) (h : c.toNat < 128) : decodeL (c :: l) = (c.toNat, 1) := by
  have ho : oneB (c :: l) 1 = true := by
    unfold oneB
    rw [decide_eq_true (by simp), List.take_succ_cons, List.take_zero]
    simp only [Bool.true_and, Bool.and_eq_true, beq_iff_eq, numN]
    refine ⟨by simp only [isPt, decide_eq_true_eq]; omega, ?_⟩
    unfold encN
    rw [if_pos h, toN rfl]
  have := decode_one _ 1 ho
  rw [this]; rfl
theorem valid_cons (c : UInt8) (l : List UInt8) (h : c.toNat < 128) : validD (c :: l) = validD l := by
  rw [valid_step _ (by simp)]
  unfold wellB
  rw [decode_ascii c l h]
  rw [decide_eq_false (by intro h1; have := h1.1; simp at this; omega)]
  rfl
theorem cut_cons (c : UInt8) (l : List UInt8) (h : c.toNat < 128) : Cut (c :: l) l := ⟨by simp, fun x => by rw [valid_cons c l h] at x; exact x⟩
theorem cut_drop : ∀ (n : Nat) (l : List UInt8), (∀ c ∈ l.take n, c.toNat < 128) → Cut l (l.drop n)
  | 0, l, _ => by rw [List.drop_zero]; exact Cut.refl _
  | n + 1, [], _ => by rw [List.drop_nil]; exact Cut.refl _
  | n + 1, c :: l, h => by
    rw [List.drop_succ_cons]
    exact (cut_cons c l (h c (by simp))).trans (cut_drop n l fun x hx => h x (by simp [hx]))
theorem cut_while (p : UInt8 → Bool) (hp : ∀ c, p c = true → c.toNat < 128) : ∀ l : List UInt8, Cut l (l.dropWhile p)
  | [] => Cut.refl _
  | c :: l => by
    rw [List.dropWhile_cons]
    by_cases h : p c = true
    · rw [if_pos h]; exact (cut_cons c l (hp c h)).trans (cut_while p hp l)
    · rw [if_neg h]; exact Cut.refl _
theorem dig_ascii (c : UInt8) (h : isDig c = true) : c.toNat < 128 := by unfold isDig at h; rw [decide_eq_true_eq] at h; omega
theorem blank_ascii (c : UInt8) (h : blankJ c = true) : c.toNat < 128 := by
  unfold blankJ at h
  simp only [Bool.or_eq_true, beq_iff_eq] at h
  rcases h with ((h | h) | h) | h <;> (subst h; decide)
theorem cut_bl (l : List UInt8) : Cut l (blJ l) := cut_while _ blank_ascii l
theorem cut_tk (what l t : List UInt8) (hw : ∀ c ∈ what, c.toNat < 128) (h : tkJ what l = some t) : Cut l t ∧ t.length + what.length = l.length := by
  unfold tkJ at h
  split at h
  · rename_i hp
    injection h with h
    obtain ⟨u, rfl⟩ := List.isPrefixOf_iff_prefix.1 hp
    rw [List.drop_left] at h
    subst h
    refine ⟨?_, by rw [List.length_append]; omega⟩
    have := cut_drop what.length (what ++ u) (by rw [List.take_left]; exact hw)
    rw [List.drop_left] at this
    exact this
  · cases h
theorem cut_part (mark sign : UInt8 → Bool) (hm : ∀ c, mark c = true → c.toNat < 128) (hs : ∀ c, sign c = true → c.toNat < 128) (l t : List UInt8) (h : partJ mark sign l = some t) : Cut l t := by
  cases l with
  | nil => rw [partJ] at h; cases h
  | cons c r =>
    rw [partJ] at h
    split at h
    · rename_i hc
      refine (cut_cons c r (hm c hc)).trans ?_
      simp only at h
      split at h
      · rename_i hg
        split at h
        · cases h
        · injection h with h
          subst h
          cases r with
          | nil => simp at hg
          | cons d r2 =>
            refine (cut_cons d r2 (hs d (by simpa using hg))).trans ?_
            exact cut_while _ dig_ascii _
      · split at h
        · cases h
        · injection h with h
          subst h
          exact cut_while _ dig_ascii _
    · cases h
theorem cut_part' (mark sign : UInt8 → Bool) (hm : ∀ c, mark c = true → c.toNat < 128) (hs : ∀ c, sign c = true → c.toNat < 128) (l : List UInt8) : Cut l ((partJ mark sign l).getD l) := by
  cases h : partJ mark sign l with
  | none => exact Cut.refl _
  | some t => exact cut_part mark sign hm hs l t h
theorem cut_point (l : List UInt8) : Cut l ((pointJ l).getD l) := cut_part' _ _ (fun c h => by rw [beq_iff_eq] at h; subst h; decide) (fun c h => by cases h) l
theorem cut_power (l : List UInt8) : Cut l ((powerJ l).getD l) := cut_part' _ _
  (fun c h => by simp only [Bool.or_eq_true, beq_iff_eq] at h; rcases h with h | h <;> (subst h; decide))
  (fun c h => by simp only [Bool.or_eq_true, beq_iff_eq] at h; rcases h with h | h <;> (subst h; decide)) l
theorem cut_body (l : List UInt8) : Cut l (body l) := by
  unfold body
  split
  · rename_i h
    cases l with
    | nil => exact Cut.refl _
    | cons c r =>
      unfold below at h
      simp only [beq_iff_eq] at h
      subst h
      exact cut_cons _ r (by decide)
  · exact Cut.refl _
theorem take_while_all (p : UInt8 → Bool) : ∀ (l : List UInt8), ∀ c ∈ l.takeWhile p, p c = true
  | [], c, h => by simp at h
  | d :: l, c, h => by
    rw [List.takeWhile_cons] at h
    split at h
    · rename_i hd
      rcases List.mem_cons.1 h with h | h
      · rw [h]; exact hd
      · exact take_while_all p l c h
    · cases h
theorem whole_pre (l : List UInt8) : l.take (wholeJ l).length = wholeJ l ∧ ∀ c ∈ wholeJ l, c.toNat < 128 := by
  unfold wholeJ
  split
  · rename_i h
    cases l with
    | nil => simp at h
    | cons c r =>
      simp only [List.head?_cons, beq_iff_eq, Option.some.injEq] at h
      subst h
      refine ⟨by simp, fun c hc => ?_⟩
      rw [List.mem_singleton] at hc; subst hc; decide
  · refine ⟨?_, fun c hc => dig_ascii c (take_while_all _ _ c hc)⟩
    conv => lhs; arg 2; rw [← List.takeWhile_append_dropWhile (p := isDig) (l := l)]
    exact List.take_left
theorem ite_ok {α : Type} {c : Prop} [Decidable c] {a : Int} {x y : α} (h : (if c then (Except.error a : Except Int α) else .ok x) = .ok y) : x = y := by
  by_cases hc : c
  · rw [if_pos hc] at h; cases h
  · rw [if_neg hc] at h; injection h
theorem cut_num (l : List UInt8) (n : Int) (t : List UInt8) (h : numJ l = .ok (n, t)) : Cut l t ∧ t.length < l.length := by
  unfold numJ at h
  simp only at h
  split at h
  · cases h
  · rename_i hd
    · have h := ite_ok h
      injection h with h1 h2
      subst h2
      obtain ⟨g1, g2⟩ := whole_pre (body l)
      have c1 := cut_body l
      have c2 : Cut (body l) ((body l).drop (wholeJ (body l)).length) := cut_drop _ _ (by rw [g1]; exact g2)
      have c3 := cut_point ((body l).drop (wholeJ (body l)).length)
      have c4 := cut_power ((pointJ ((body l).drop (wholeJ (body l)).length)).getD ((body l).drop (wholeJ (body l)).length))
      refine ⟨((c1.trans c2).trans c3).trans c4, ?_⟩
      have hl : 0 < (wholeJ (body l)).length := by
        cases hw : wholeJ (body l) with
        | nil => rw [hw] at hd; exact absurd rfl hd
        | cons a b => simp
      have hlt : (wholeJ (body l)).length ≤ (body l).length := by
        have := congrArg List.length g1
        rw [List.length_take] at this
        omega
      have e1 := c1.1
      have e2 : ((body l).drop (wholeJ (body l)).length).length = (body l).length - (wholeJ (body l)).length := List.length_drop
      have e3 := c3.1
      have e4 := c4.1
      omega
theorem hexJ_ascii (c : UInt8) (d : Nat) (h : hexJ c = some d) : c.toNat < 128 ∧ d < 16 := by
  unfold hexJ at h
  split at h
  · injection h with h; omega
  · split at h
    · injection h with h; omega
    · split at h
      · injection h with h; omega
      · cases h
theorem cut_hexs : ∀ (k n : Nat) (l : List UInt8) (m : Nat) (t : List UInt8), hexsJ k n l = some (m, t) → Cut l t ∧ t.length + k = l.length
  | 0, n, l, m, t, h => by
    rw [hexsJ] at h
    injection h with h; injection h with h1 h2
    subst h2
    exact ⟨Cut.refl _, by omega⟩
  | k + 1, n, [], m, t, h => by rw [hexsJ] at h; cases h
  | k + 1, n, c :: r, m, t, h => by
    rw [hexsJ] at h
    cases hx : hexJ c with
    | none => rw [hx] at h; cases h
    | some d =>
      rw [hx] at h
      have ⟨h1, h2⟩ := cut_hexs k _ r m t h
      exact ⟨(cut_cons c r (hexJ_ascii c d hx).1).trans h1, by rw [List.length_cons]; omega⟩
theorem hexs_lt : ∀ (k n : Nat) (l : List UInt8) (m : Nat) (t : List UInt8) (B : Nat), hexsJ k n l = some (m, t) → n < B → m < B * 16 ^ k
  | 0, n, l, m, t, B, h, hn => by
    rw [hexsJ] at h
    injection h with h; injection h with h1 h2
    omega
  | k + 1, n, [], m, t, B, h, hn => by rw [hexsJ] at h; cases h
  | k + 1, n, c :: r, m, t, B, h, hn => by
    rw [hexsJ] at h
    cases hx : hexJ c with
    | none => rw [hx] at h; cases h
    | some d =>
      rw [hx] at h
      have hd := (hexJ_ascii c d hx).2
      have := hexs_lt k (n * 16 + d) r m t (B * 16) h (by omega)
      rw [Nat.pow_succ, Nat.mul_comm (16 ^ k) 16, ← Nat.mul_assoc]; exact this
theorem letJ_ascii (c : UInt8) (p : Nat) (h : letJ c = some p) : c.toNat < 128 ∧ isPt p = true := by
  have := (by decide +kernel : ∀ i : Fin 256, ∀ q ∈ letJ (UInt8.ofNat i.val), (UInt8.ofNat i.val).toNat < 128 ∧ isPt q = true) ⟨c.toNat, UInt8.toNat_lt c⟩ p
  simp only [UInt8.ofNat_toNat] at this
  exact this h
/-- Behind an escape: a text, and a code point. -/
theorem cut_esc (l : List UInt8) (p : Nat) (t : List UInt8) (h : escJ l = some (p, t)) : Cut l t ∧ t.length < l.length ∧ isPt p = true := by
  cases l with
  | nil => rw [escJ] at h; cases h
  | cons c r =>
    rw [escJ] at h
    cases hl : letJ c with
    | some q =>
      rw [hl] at h
      injection h with h; injection h with h1 h2
      subst h1; subst h2
      obtain ⟨g1, g2⟩ := letJ_ascii c q hl
      exact ⟨cut_cons c r g1, by simp, g2⟩
    | none =>
      rw [hl] at h
      simp only at h
      split at h
      · cases h
      · rename_i hu
        have hu2 : c = 117 := by simpa using hu
        subst hu2
        have k0 := cut_cons 117 r (by decide)
        cases hx : hexsJ 4 0 r with
        | none => rw [hx] at h; cases h
        | some nt =>
          obtain ⟨n, t1⟩ := nt
          rw [hx] at h
          simp only at h
          obtain ⟨k1, k2⟩ := cut_hexs 4 0 r n t1 hx
          have hn := hexs_lt 4 0 r n t1 1 hx (by decide)
          split at h
          · cases h
          · rename_i hlo
            split at h
            · rename_i hhi
              unfold lowJ at h
              cases ht : tkJ [92, 117] t1 with
              | none => rw [ht] at h; cases h
              | some t2 =>
                rw [ht] at h
                simp only at h
                obtain ⟨k3, k4⟩ := cut_tk _ _ _ (by decide) ht
                cases hx2 : hexsJ 4 0 t2 with
                | none => rw [hx2] at h; cases h
                | some mt =>
                  obtain ⟨m, t3⟩ := mt
                  rw [hx2] at h
                  simp only at h
                  obtain ⟨k5, k6⟩ := cut_hexs 4 0 t2 m t3 hx2
                  split at h
                  · cases h
                  · rename_i hm
                    injection h with h; injection h with h1 h2
                    subst h1; subst h2
                    refine ⟨(((k0.trans k1).trans k3).trans k5), by simp only [List.length_cons, List.length_nil] at *; omega, ?_⟩
                    simp only [isPt, decide_eq_true_eq]
                    omega
            · rename_i hhi
              injection h with h; injection h with h1 h2
              subst h1; subst h2
              refine ⟨k0.trans k1, by simp only [List.length_cons] at *; omega, ?_⟩
              simp only [isPt, decide_eq_true_eq]
              simp at hn
              omega
theorem decode_pt (l : List UInt8) (hne : l ≠ []) (hw : wellB l = true) : isPt (decodeL l).1 = true ∧ 1 ≤ (decodeL l).2 ∧ (decodeL l).2 ≤ l.length ∧ encN (decodeL l).1 = l.take (decodeL l).2 := by
  have hv : ¬ ((decodeL l).1 = 65533 ∧ (decodeL l).2 = 1) := by
    simp only [wellB, Bool.not_eq_true', decide_eq_false_iff_not] at hw
    exact hw
  obtain ⟨g1, g2, g3, g4⟩ := one_decode l hne hv
  unfold oneB at g1
  simp only [Bool.and_eq_true, decide_eq_true_eq, beq_iff_eq] at g1
  rw [g2] at g1
  exact ⟨g1.2.1, g3, g1.1, g1.2.2⟩
/-- Behind a text's last quote: a text; and its code points are some. -/
theorem cut_go : ∀ (f : Nat) (l : List UInt8) (P : List Nat) (t : List UInt8), validD l = true → strGo f l = some (P, t) → Cut l t ∧ t.length + P.length < l.length ∧ ∀ p ∈ P, isPt p = true
  | 0, l, P, t, _, h => by rw [strGo] at h; cases h
  | f + 1, [], P, t, _, h => by rw [strGo] at h; cases h
  | f + 1, c :: r, P, t, hv, h => by
    rw [strGo] at h
    split at h
    · rename_i hc
      injection h with h; injection h with h1 h2
      subst h1; subst h2; subst hc
      exact ⟨cut_cons _ _ (by decide), by simp, fun p hp => by cases hp⟩
    · split at h
      · cases h
      · split at h
        · rename_i hc
          subst hc
          cases he : escJ r with
          | none => rw [he] at h; cases h
          | some pt =>
            obtain ⟨p, t1⟩ := pt
            rw [he] at h
            simp only at h
            obtain ⟨k1, k2, k3⟩ := cut_esc r p t1 he
            have k0 := cut_cons 92 r (by decide)
            cases hg : strGo f t1 with
            | none => rw [hg] at h; cases h
            | some x =>
              obtain ⟨Q, u⟩ := x
              rw [hg] at h
              injection h with h; injection h with h1 h2
              simp only at h1 h2
              subst h1; subst h2
              obtain ⟨g1, g2, g3⟩ := cut_go f t1 Q u ((k0.trans k1).2 hv) hg
              refine ⟨(k0.trans k1).trans g1, by simp only [List.length_cons]; omega, fun q hq => ?_⟩
              rcases List.mem_cons.1 hq with hq | hq
              · rw [hq]; exact k3
              · exact g3 q hq
        · have hs := valid_step (c :: r) (by simp)
          rw [hv] at hs
          have hs2 := hs.symm
          rw [Bool.and_eq_true] at hs2
          obtain ⟨hw, hv2⟩ := hs2
          obtain ⟨d1, d2, d3, d4⟩ := decode_pt (c :: r) (by simp) hw
          cases hg : strGo f ((c :: r).drop (decodeL (c :: r)).2) with
          | none => rw [hg] at h; cases h
          | some x =>
            obtain ⟨Q, u⟩ := x
            rw [hg] at h
            injection h with h; injection h with h1 h2
            simp only at h1 h2
            subst h1; subst h2
            obtain ⟨g1, g2, g3⟩ := cut_go f _ Q u hv2 hg
            have hl := List.length_drop (i := (decodeL (c :: r)).2) (l := c :: r)
            have g11 := g1.1
            refine ⟨⟨by omega, fun _ => g1.2 hv2⟩, by simp only [List.length_cons] at *; omega, fun q hq => ?_⟩
            rcases List.mem_cons.1 hq with hq | hq
            · rw [hq]; exact d1
            · exact g3 q hq
/-- More rounds than bytes change nothing. -/
theorem strGo_fuel : ∀ (f g : Nat) (l : List UInt8), l.length ≤ f → l.length ≤ g → strGo f l = strGo g l
  | 0, 0, l, _, _ => rfl
  | 0, g + 1, l, hf, _ => by
    have : l = [] := List.eq_nil_of_length_eq_zero (by omega)
    subst this
    rw [strGo, strGo]
  | f + 1, 0, l, _, hg => by
    have : l = [] := List.eq_nil_of_length_eq_zero (by omega)
    subst this
    rw [strGo, strGo]
  | f + 1, g + 1, [], _, _ => by rw [strGo, strGo]
  | f + 1, g + 1, c :: r, hf, hg => by
    rw [strGo, strGo]
    simp only [List.length_cons] at hf hg
    have hdl : ((c :: r).drop (decodeL (c :: r)).2).length ≤ r.length := by
      have := decodeL_width (c :: r)
      rw [List.length_drop, List.length_cons]; omega
    rw [strGo_fuel f g _ (Nat.le_trans hdl (by omega)) (Nat.le_trans hdl (by omega))]
    cases he : escJ r with
    | none => rfl
    | some pt =>
      obtain ⟨p, t1⟩ := pt
      have := (cut_esc r p t1 he).2.1
      simp only
      rw [strGo_fuel f g t1 (by omega) (by omega)]
theorem flat_len : ∀ P : List Nat, (P.flatMap encN).length ≤ 4 * P.length
  | [] => by simp
  | p :: P => by
    rw [List.flatMap_cons, List.length_append, List.length_cons]
    have h1 := flat_len P
    have h2 : (encN p).length ≤ 4 := by
      unfold encN; repeat' split
      all_goals simp
    omega
theorem cut_str (l s t : List UInt8) (hv : validD l = true) (h : strJ l = some (s, t)) : Cut l t ∧ t.length < l.length ∧ s.length ≤ 4 * l.length := by
  unfold strJ at h
  cases ht : tkJ [34] l with
  | none => rw [ht] at h; cases h
  | some r =>
    rw [ht] at h
    obtain ⟨k1, k2⟩ := cut_tk _ _ _ (by decide) ht
    simp only at h
    cases hg : strGo r.length r with
    | none => rw [hg] at h; cases h
    | some x =>
      obtain ⟨P, u⟩ := x
      rw [hg] at h
      injection h with h; injection h with h1 h2
      simp only at h1 h2
      subst h1; subst h2
      obtain ⟨g1, g2, g3⟩ := cut_go _ r P u (k1.2 hv) hg
      have := flat_len P
      simp only [List.length_cons, List.length_nil] at k2
      exact ⟨k1.trans g1, by omega, by omega⟩
theorem cut_mem (nm : List (List UInt8)) (l s t : List UInt8) (hv : validD l = true) (h : memJ nm l = .ok (s, t)) : Cut l t ∧ t.length < l.length ∧ s.length ≤ 4 * l.length := by
  unfold memJ at h
  cases hs : strJ l with
  | none => rw [hs] at h; cases h
  | some x =>
    obtain ⟨q, u⟩ := x
    rw [hs] at h
    obtain ⟨k1, k2, k3⟩ := cut_str l q u hv hs
    simp only at h
    split at h
    · cases h
    · split at h
      · cases h
      · cases ht : tkJ [58] (blJ u) with
        | none => rw [ht] at h; cases h
        | some r =>
          rw [ht] at h
          injection h with h; injection h with h1 h2
          subst h1; subst h2
          obtain ⟨g1, g2⟩ := cut_tk _ _ _ (by decide) ht
          have b := cut_bl u
          have b1 := b.1
          simp only [List.length_cons, List.length_nil] at g2
          exact ⟨(k1.trans b).trans g1, by omega, k3⟩
/-- What a value leaves, and makes. -/
def ValW (val : List UInt8 → List UInt8 → List Cel → Except Int (List UInt8 × List Cel)) : Prop := ∀ name l out t o2, validD l = true → val name l out = .ok (t, o2) → Cut l t ∧ t.length < l.length ∧ ∃ new, o2 = out ++ new ∧ 0 < new.length
theorem cut_items (val : List UInt8 → List UInt8 → List Cel → Except Int (List UInt8 × List Cel)) (hval : ValW val) (isO : Bool) : ∀ (f n : Nat) (nm : List (List UInt8)) (l : List UInt8) (out : List Cel) (k : Nat) (t : List UInt8) (o2 : List Cel), validD l = true → itemsJ val isO f n nm l out = .ok (k, t, o2) → Cut l t ∧ t.length < l.length ∧ n ≤ k ∧ k + t.length < n + l.length ∧ ∃ new, o2 = out ++ new
  | 0, n, nm, l, out, k, t, o2, _, h => by rw [itemsJ] at h; cases h
  | f + 1, n, nm, l, out, k, t, o2, hv, h => by
    rw [itemsJ] at h
    cases ht : tkJ [if isO then 125 else 93] l with
    | some r =>
      rw [ht] at h
      injection h with h; injection h with h1 h2; injection h2 with h2 h3
      subst h1; subst h2; subst h3
      obtain ⟨k1, k2⟩ := cut_tk _ _ _ (by cases isO <;> decide) ht
      simp only [List.length_cons, List.length_nil] at k2
      exact ⟨k1, by omega, Nat.le_refl _, by omega, [], by simp⟩
    | none =>
      rw [ht] at h
      simp only at h
      cases hc : (if n = 0 then some l else (tkJ [44] l).map blJ) with
      | none => rw [hc] at h; cases h
      | some l1 =>
        rw [hc] at h
        simp only at h
        have c1 : Cut l l1 := by
          split at hc
          · injection hc with hc; subst hc; exact Cut.refl _
          · cases hk : tkJ [44] l with
            | none => rw [hk] at hc; cases hc
            | some r =>
              rw [hk] at hc
              injection hc with hc
              subst hc
              exact (cut_tk _ _ _ (by decide) hk).1.trans (cut_bl r)
        cases hm : (if isO then memJ nm l1 else .ok ([], l1)) with
        | error e => rw [hm] at h; cases h
        | ok x =>
          obtain ⟨s, l2⟩ := x
          rw [hm] at h
          simp only at h
          have c2 : Cut l1 l2 := by
            split at hm
            · exact (cut_mem nm l1 s l2 (c1.2 hv) hm).1
            · injection hm with hm; injection hm with h1 h2; subst h2; exact Cut.refl _
          cases hx : val s l2 out with
          | error e => rw [hx] at h; cases h
          | ok y =>
            obtain ⟨l3, out2⟩ := y
            rw [hx] at h
            simp only at h
            obtain ⟨c3, h3, new, rfl, hnew⟩ := hval _ _ _ _ _ ((c1.trans c2).2 hv) hx
            have c4 := cut_bl l3
            obtain ⟨c5, h5, h6, h7, new2, rfl⟩ := cut_items val hval isO f (n + 1) _ (blJ l3) (out ++ new) k t o2 ((((c1.trans c2).trans c3).trans c4).2 hv) h
            have l1' := c1.1; have l2' := c2.1; have l4' := c4.1
            exact ⟨(((c1.trans c2).trans c3).trans c4).trans c5, by omega, by omega, by omega, new ++ new2, by rw [List.append_assoc]⟩
theorem cut_leaf (name : List UInt8) (c : UInt8) (r : List UInt8) (out : List Cel) (t : List UInt8) (o2 : List Cel) (hv : validD (c :: r) = true) (h : leafJ name c (c :: r) out = .ok (t, o2)) : Cut (c :: r) t ∧ t.length < (c :: r).length ∧ ∃ x : Cel, o2 = out ++ [x] := by
  unfold leafJ at h
  split at h
  · cases hs : strJ (c :: r) with
    | none => rw [hs] at h; cases h
    | some y =>
      obtain ⟨s, u⟩ := y
      rw [hs] at h
      injection h with h; injection h with h1 h2
      subst h1; subst h2
      obtain ⟨k1, k2, k3⟩ := cut_str _ s u hv hs
      exact ⟨k1, k2, _, rfl⟩
  have tk : ∀ (w : List UInt8) (x : Cel), (∀ c ∈ w, c.toNat < 128) → 0 < w.length → (match tkJ w (c :: r) with | none => (.error 40 : Except Int (List UInt8 × List Cel)) | some t => .ok (t, out ++ [x])) = .ok (t, o2) → Cut (c :: r) t ∧ t.length < (c :: r).length ∧ ∃ x : Cel, o2 = out ++ [x] := by
    intro w x hw h0 h
    cases hs : tkJ w (c :: r) with
    | none => rw [hs] at h; cases h
    | some u =>
      rw [hs] at h
      injection h with h; injection h with h1 h2
      subst h1; subst h2
      obtain ⟨k1, k2⟩ := cut_tk _ _ _ hw hs
      exact ⟨k1, by omega, _, rfl⟩
  split at h
  · exact tk [116, 114, 117, 101] _ (by decide) (by decide) h
  split at h
  · exact tk [102, 97, 108, 115, 101] _ (by decide) (by decide) h
  split at h
  · exact tk [110, 117, 108, 108] _ (by decide) (by decide) h
  · cases hs : numJ (c :: r) with
    | error e => rw [hs] at h; cases h
    | ok y =>
      obtain ⟨s, u⟩ := y
      rw [hs] at h
      injection h with h; injection h with h1 h2
      subst h1; subst h2
      obtain ⟨k1, k2⟩ := cut_num _ s u hs
      exact ⟨k1, k2, _, rfl⟩
theorem modify_app (k n : Nat) (out : List Cel) (c : Cel) (new : List Cel) (hk : k = out.length) : manyAt k n (out ++ c :: new) = out ++ { c with many := (n : Int) } :: new := by
  unfold manyAt
  subst hk
  induction out with
  | nil => rfl
  | cons x out ih => rw [List.cons_append, List.length_cons, List.modify_succ_cons, ih]; rfl
theorem cut_val_step (d : Nat) (ih : ∀ e, d = e + 1 → ValW (valJ e)) : ValW (valJ d) := by
    intro name l out t o2 hv h
    unfold valJ at h
    have b := cut_bl l
    have b1 := b.1
    cases hb : blJ l with
    | nil => rw [hb] at h; simp at h
    | cons c r =>
      rw [hb] at h b b1
      simp only at h
      split at h
      · cases h
      · split at h
        · cases h
        · split at h
          · rename_i hc
            cases d with
            | zero => first | (cases h; done) | simp at h
            | succ d =>
              try simp only at h
              have c0 : Cut (c :: r) r := cut_cons c r (by rcases hc with hc | hc <;> (subst hc; decide))
              have c1 := cut_bl r
              cases hi : itemsJ (valJ d) (c == 123) (r.length + 1) 0 [] (blJ r) (out ++ [⟨if c = 123 then 7 else 6, name, [], 0, 0⟩]) with
              | error e => rw [hi] at h; cases h
              | ok y =>
                obtain ⟨n, u, o3⟩ := y
                rw [hi] at h
                injection h with h; injection h with h1 h2
                subst h1; subst h2
                obtain ⟨k1, k2, _, _, new, rfl⟩ := cut_items _ (ih d rfl) _ _ _ _ _ _ _ _ _ (((b.trans c0).trans c1).2 hv) hi
                have l1 := c1.1
                simp only [List.length_cons] at b1
                refine ⟨((b.trans c0).trans c1).trans k1, by omega, ⟨if c = 123 then 7 else 6, name, [], 0, (n : Int)⟩ :: new, ?_, by simp⟩
                rw [List.append_assoc, List.singleton_append, modify_app _ _ _ _ _ rfl]
          · obtain ⟨k1, k2, x, rfl⟩ := cut_leaf name c r out t o2 (b.2 hv) h
            exact ⟨b.trans k1, by omega, [x], rfl, by simp⟩
theorem cut_val : ∀ d : Nat, ValW (valJ d)
  | 0 => cut_val_step 0 fun e h => by omega
  | d + 1 => cut_val_step (d + 1) fun e h => by
    have : e = d := by omega
    subst this
    exact cut_val e
/-- More rounds than bytes change nothing. -/
theorem items_fuel (val : List UInt8 → List UInt8 → List Cel → Except Int (List UInt8 × List Cel)) (hval : ValW val) (isO : Bool) : ∀ (f g n : Nat) (nm : List (List UInt8)) (l : List UInt8) (out : List Cel), validD l = true → l.length < f → l.length < g → itemsJ val isO f n nm l out = itemsJ val isO g n nm l out
  | 0, g, n, nm, l, out, _, hf, _ => by omega
  | f + 1, 0, n, nm, l, out, _, _, hg => by omega
  | f + 1, g + 1, n, nm, l, out, hv, hf, hg => by
    rw [itemsJ, itemsJ]
    cases ht : tkJ [if isO then 125 else 93] l with
    | some r => rfl
    | none =>
      simp only
      cases hc : (if n = 0 then some l else (tkJ [44] l).map blJ) with
      | none => rfl
      | some l1 =>
        simp only
        have c1 : Cut l l1 := by
          split at hc
          · injection hc with hc; subst hc; exact Cut.refl _
          · cases hk : tkJ [44] l with
            | none => rw [hk] at hc; cases hc
            | some r =>
              rw [hk] at hc
              injection hc with hc
              subst hc
              exact (cut_tk _ _ _ (by decide) hk).1.trans (cut_bl r)
        cases hm : (if isO then memJ nm l1 else .ok ([], l1)) with
        | error e => rfl
        | ok x =>
          obtain ⟨s, l2⟩ := x
          simp only
          have c2 : Cut l1 l2 := by
            split at hm
            · exact (cut_mem nm l1 s l2 (c1.2 hv) hm).1
            · injection hm with hm; injection hm with h1 h2; subst h2; exact Cut.refl _
          cases hx : val s l2 out with
          | error e => rfl
          | ok y =>
            obtain ⟨l3, out2⟩ := y
            simp only
            obtain ⟨c3, h3, _⟩ := hval _ _ _ _ _ ((c1.trans c2).2 hv) hx
            have c4 := cut_bl l3
            have l1' := c1.1; have l2' := c2.1; have l4' := c4.1
            exact items_fuel val hval isO f g _ _ _ _ ((((c1.trans c2).trans c3).trans c4).2 hv) (by omega) (by omega)
end Go.Proofs.YtglhanblbojkhaaGreatDoor
