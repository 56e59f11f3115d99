/- Walks and plain laws of this proof, joined from smaller texts (3). -/
import Derived.Test.YtglhanblbojkhaaGreatDoorRows
import Derived.Below
import Derived.ChangeSame
import Derived.ProofKit
import Derived.Test.YtglhanblbojkhaaGreatDoorO2
set_option linter.unusedSimpArgs false
set_option linter.unusedVariables false
namespace Go.Proofs.YtglhanblbojkhaaGreatDoor
open Go.Lib
/-- A cell that JSON can tell. -/
def GoodC (c : Cel) : Prop := (c.kind == 4 || c.kind == 5) = false ∧ R c.num
def renJ (name : List UInt8) : List Cel → List Cel
  | [] => []
  | c :: r => { c with name := name } :: r
theorem dig_ne (a : UInt8) (h : isDig a = true) (x : Nat) (hx : x < 256) (ho : x < 48 ∨ 57 < x) : a ≠ UInt8.ofNat x := by
  intro e
  have h1 := (dig_rng a).1 h
  rw [e, ofN x hx] at h1
  omega
theorem leaf_good (c : Cel) (h1 : oneC c = true) (hn : nestC c = false) (hg : GoodC c) (name rest : List UInt8) (out : List Cel) (hs : StopJ rest) :
    ∃ a r, litJ c ++ rest = a :: r ∧ begJ a = true ∧ a ≠ 123 ∧ a ≠ 91 ∧ blankJ a = false ∧ leafJ name a (litJ c ++ rest) out = .ok (rest, out ++ [{ c with name := name }]) := by
  obtain ⟨a, r, hl, b1, b2, b3, b4⟩ := lit_head c h1 hn
  refine ⟨a, r ++ rest, by rw [hl]; rfl, b1, b2, b3, b4, ?_⟩
  obtain ⟨kind, nm, text, num, many⟩ := c
  obtain ⟨he, hR⟩ := hg
  simp only at he hR
  unfold nestC at hn
  simp only [Bool.or_eq_false_iff, beq_eq_false_iff_ne] at hn he
  unfold oneC at h1
  simp only at h1
  unfold litJ at hl ⊢
  simp only at hl ⊢
  by_cases k0 : kind = 0
  · rw [if_pos k0] at h1 hl ⊢
    simp only [Bool.and_eq_true, List.isEmpty_iff, beq_iff_eq] at h1
    obtain ⟨⟨e1, e2⟩, e3⟩ := h1
    injection hl with hl _
    subst hl
    unfold leafJ
    rw [if_neg (by decide), if_neg (by decide), if_neg (by decide), if_pos rfl, tk_app, k0, e1, e2, e3]
  rw [if_neg k0] at h1 hl ⊢
  by_cases k1 : kind = 1
  · rw [if_pos k1] at h1 hl ⊢
    simp only [Bool.and_eq_true, Bool.or_eq_true, List.isEmpty_iff, beq_iff_eq] at h1
    obtain ⟨⟨e1, e2⟩, e3⟩ := h1
    by_cases hb : num = 1
    · rw [if_pos hb] at hl ⊢
      injection hl with hl _
      subst hl
      unfold leafJ
      rw [if_neg (by decide), if_pos rfl, tk_app, k1, e1, hb, e3]
    · rw [if_neg hb] at hl ⊢
      injection hl with hl _
      subst hl
      have hb0 : num = 0 := e2.resolve_right hb
      unfold leafJ
      rw [if_neg (by decide), if_neg (by decide), if_pos rfl, tk_app, k1, e1, hb0, e3]
  rw [if_neg k1] at h1 hl ⊢
  by_cases k2 : kind = 2
  · rw [if_pos k2] at h1 hl ⊢
    simp only [Bool.and_eq_true, List.isEmpty_iff, beq_iff_eq] at h1
    obtain ⟨e1, e3⟩ := h1
    have ha : a = 45 ∨ isDig a = true := by
      obtain ⟨a', r', h', ha'⟩ := itoa_head num
      rw [hl] at h'
      injection h' with h' _
      rw [h']; exact ha'
    have hne : ∀ x : Nat, x < 256 → 57 < x ∨ x = 34 → a ≠ UInt8.ofNat x := fun x hx ho => by
      rcases ha with rfl | ha
      · intro e
        have := congrArg UInt8.toNat e
        rw [ofN x hx] at this
        have h45 : (45 : UInt8).toNat = 45 := rfl
        omega
      · exact dig_ne a ha x hx (by omega)
    unfold leafJ
    rw [if_neg (show ¬ a = 34 from hne 34 (by decide) (by decide)), if_neg (show ¬ a = 116 from hne 116 (by decide) (by decide)), if_neg (show ¬ a = 102 from hne 102 (by decide) (by decide)), if_neg (show ¬ a = 110 from hne 110 (by decide) (by decide)), num_itoa num hR rest hs, k2, e1, e3]
  rw [if_neg k2] at h1 hl ⊢
  by_cases k3 : kind = 3
  · rw [if_pos k3] at h1
    simp only [Bool.and_eq_true, beq_iff_eq] at h1
    obtain ⟨⟨e1, e2⟩, e3⟩ := h1
    unfold textB at e1
    rw [Bool.and_eq_true] at e1
    have ha : a = 34 := by
      unfold quoteL at hl
      simp only [List.cons_append, List.nil_append] at hl
      injection hl with hl _
      exact hl.symm
    subst ha
    unfold leafJ
    rw [if_pos rfl, str_quote text rest e1.2, k3, e2, e3]
  rw [if_neg k3, if_neg (by rintro (e | e); exact he.1 e; exact he.2 e), if_neg (by rintro (e | e); exact hn.1 e; exact hn.2 e)] at h1
  cases h1
theorem text_head : ∀ (d : Nat) (V : List Cel) (k : Nat), valN d V = some k → ∃ a r, textJ d V = a :: r ∧ begJ a = true ∧ blankJ a = false
  | d, [], k, h => by cases d <;> cases h
  | d, c :: r, k, h => by
    have hone : oneC c = true := by
      cases d <;> (first | rw [valN_zero, headN_cons] at h | rw [valN_more, headN_cons] at h) <;> (cases h1 : oneC c with | true => rfl | false => rw [h1] at h; cases h)
    cases hn : nestC c with
    | false =>
      obtain ⟨a, r', hl, b1, _, _, b4⟩ := lit_head c hone hn
      refine ⟨a, r', ?_, b1, b4⟩
      cases d <;> (first | rw [textJ_zero, headJ_cons, hn] | rw [textJ_more, headJ_cons, hn]) <;> exact hl
    | true =>
      cases d with
      | zero => rw [valN_zero, headN_cons, hone, hn] at h; cases h
      | succ d =>
        rw [textJ_more, headJ_cons, hn, if_pos rfl]
        cases hk : c.kind == 6 with
        | true => exact ⟨91, _, rfl, by decide, by decide⟩
        | false => exact ⟨123, _, rfl, by decide, by decide⟩
theorem bl_head (l : List UInt8) (h : ∀ c, l.head? = some c → blankJ c = false) : blJ l = l := by
  cases l with
  | nil => rfl
  | cons c r => exact bl_not c r (h c rfl)
theorem among_cont (L : List (List UInt8)) (n : List UInt8) : amongB L n = L.contains n := by
  unfold amongB
  induction L with
  | nil => rfl
  | cons a L ih =>
    rw [List.any_cons, List.contains_cons, ih]
    congr 1
    exact BEq.comm
theorem kidsN_names (val : List Cel → Option Nat) : ∀ (n : Nat) (nm nm' : List (List UInt8)) (V : List Cel), kidsN val true n nm V = kidsN val true n nm' V
  | 0, nm, nm', V => rfl
  | n + 1, nm, nm', [] => rfl
  | n + 1, nm, nm', c :: r => by
    rw [kidsN, kidsN]
    have : okN true nm c.name = okN true nm' c.name := rfl
    rw [this]
    split
    · cases val (c :: r) with
      | none => rfl
      | some k => simp only; rw [kidsN_names val n (c.name :: nm) (c.name :: nm')]
    · rfl
def endJ (isO : Bool) : UInt8 := if isO then 125 else 93
/-- What is said of a value at a depth. -/
def ValT (d : Nat) : Prop := ∀ (V : List Cel) (k : Nat) (name rest : List UInt8) (out : List Cel), valN d V = some k → (∀ x ∈ V.take k, GoodC x) → StopJ rest → out.length + k ≤ 2048 → valJ d name (textJ d V ++ rest) out = .ok (rest, out ++ renJ name (V.take k))
theorem kids_head (d : Nat) (isO : Bool) (n : Nat) (V : List Cel) (rest : List UInt8) : ∃ a r, kidsJ (valN d) (textJ d) isO n false V ++ endJ isO :: rest = a :: r ∧ (a = 44 ∨ a = endJ isO) := by
  cases n with
  | zero => exact ⟨endJ isO, rest, rfl, Or.inr rfl⟩
  | succ n =>
    rw [kidsJ]
    unfold preJ
    exact ⟨44, _, rfl, Or.inl rfl⟩
theorem end_stop (isO : Bool) (a : UInt8) (r : List UInt8) (h : a = 44 ∨ a = endJ isO) : StopJ (a :: r) ∧ blankJ a = false := by
  have : a = 44 ∨ a = 125 ∨ a = 93 := by
    rcases h with h | h
    · exact Or.inl h
    · cases isO
      · exact Or.inr (Or.inr h)
      · exact Or.inr (Or.inl h)
  refine ⟨fun c hc => ?_, ?_⟩
  · injection hc with hc
    subst hc
    rcases this with rfl | rfl | rfl <;> decide
  · rcases this with rfl | rfl | rfl <;> decide
theorem items_text (d : Nat) (ih : ValT d) (isO : Bool) : ∀ (n m : Nat) (nm : List (List UInt8)) (V : List Cel) (k : Nat) (rest : List UInt8) (out : List Cel) (f : Nat), kidsN (valN d) (!isO) n nm V = some k → (∀ x ∈ V.take k, GoodC x) → out.length + k ≤ 2048 → n < f →
    itemsJ (valJ d) isO f m nm (kidsJ (valN d) (textJ d) isO n (m == 0) V ++ endJ isO :: rest) out = .ok (m + n, rest, out ++ V.take k)
  | 0, m, nm, V, k, rest, out, f, h, hg, hl, hf => by
    obtain ⟨g, rfl⟩ : ∃ g, f = g + 1 := ⟨f - 1, by omega⟩
    have hk : k = 0 := (Option.some.inj h).symm
    subst hk
    rw [kidsJ, List.nil_append, itemsJ]
    rw [show (if isO then (125 : UInt8) else 93) = endJ isO from rfl, tk_one']
    simp
  | n + 1, m, nm, [], k, rest, out, f, h, hg, hl, hf => by cases h
  | n + 1, m, nm, c :: r, k, rest, out, f, h, hg, hl, hf => by
    obtain ⟨g, rfl⟩ : ∃ g, f = g + 1 := ⟨f - 1, by omega⟩
    rw [kidsN] at h
    split at h
    · rename_i hok
      split at h
      · cases h
      · rename_i k1 hk1
        rw [Option.map_eq_some_iff] at h
        obtain ⟨k2, hk2, rfl⟩ := h
        obtain ⟨v1, v2⟩ := valN_le d _ _ hk1
        obtain ⟨a0, r0, ht, hb, hbl⟩ := text_head d _ _ hk1
        obtain ⟨ka, kr, hkh, hka⟩ := kids_head d isO n ((c :: r).drop k1) rest
        obtain ⟨hst, hkb⟩ := end_stop isO ka kr hka
        have htake : (c :: r).take (k1 + k2) = (c :: r).take k1 ++ ((c :: r).drop k1).take k2 := List.take_add
        have hv : ∀ name, name = c.name → valJ d name (textJ d (c :: r) ++ (ka :: kr)) out = .ok (ka :: kr, out ++ (c :: r).take k1) := fun name hnm => by
          rw [ih (c :: r) k1 name (ka :: kr) out hk1 (fun x hx => hg x (by rw [htake]; exact List.mem_append_left _ hx)) hst (by omega)]
          congr 3
          obtain ⟨k1', rfl⟩ : ∃ k1', k1 = k1' + 1 := ⟨k1 - 1, by omega⟩
          rw [List.take_succ_cons, renJ, hnm]
        have hrec := fun nm' (hk2' : kidsN (valN d) (!isO) n nm' ((c :: r).drop k1) = some k2) => items_text d ih isO n (m + 1) nm' ((c :: r).drop k1) k2 rest (out ++ (c :: r).take k1) g hk2' (fun x hx => hg x (by rw [htake]; exact List.mem_append_right _ hx)) (by
          rw [List.length_append, List.length_take, Nat.min_eq_left v2]; omega) (by omega)
        rw [show ((m + 1 == 0) : Bool) = false from by simp, hkh] at hrec
        have hend : ∀ (x : UInt8) (y : List UInt8), x ≠ endJ isO → tkJ [if isO then 125 else 93] (x :: y) = none := fun x y hx => tk_ne y hx
        have hbeg : a0 ≠ endJ isO := by
          intro e
          rw [e] at hb
          cases isO <;> exact absurd hb (by decide)
        have hfin : itemsJ (valJ d) isO g (m + 1) (c.name :: nm) (blJ (ka :: kr)) (out ++ (c :: r).take k1) = .ok (m + (n + 1), rest, out ++ (c :: r).take (k1 + k2)) := by
          rw [bl_not ka kr hkb, hrec _ hk2, htake, List.append_assoc]
          congr 2
          omega
        cases isO with
        | true =>
          simp only [Bool.not_true, okN, Bool.false_eq_true, if_false, Bool.and_eq_true, Bool.not_eq_true'] at hok
          obtain ⟨⟨hne, htx⟩, ham⟩ := hok
          unfold textB at htx
          rw [Bool.and_eq_true] at htx
          -- the member's own text
          have hmem : memJ nm (quoteL c.name ++ ([58] ++ (textJ d (c :: r) ++ (ka :: kr)))) = .ok (c.name, textJ d (c :: r) ++ (ka :: kr)) := by
            unfold memJ
            rw [str_quote c.name _ htx.2]
            simp only
            rw [if_neg (by rw [← among_cont, ham]; simp), if_neg (by rw [hne]; simp)]
            rw [show ([58] ++ (textJ d (c :: r) ++ (ka :: kr))) = 58 :: (textJ d (c :: r) ++ (ka :: kr)) from rfl, bl_not 58 _ (by decide), tk_one']
          have hq : ∃ y, quoteL c.name ++ ([58] ++ (textJ d (c :: r) ++ (ka :: kr))) = 34 :: y := ⟨_, rfl⟩
          obtain ⟨y, hq⟩ := hq
          have hL : kidsJ (valN d) (textJ d) true (n + 1) (m == 0) (c :: r) ++ endJ true :: rest = (if m = 0 then [] else [44]) ++ (quoteL c.name ++ ([58] ++ (textJ d (c :: r) ++ (ka :: kr)))) := by
            rw [kidsJ, hk1, Option.getD_some, ← hkh]
            unfold preJ
            simp only [if_true, List.headD_cons]
            by_cases hm : m = 0
            · subst hm; simp
            · have : (m == 0) = false := by simp [hm]
              rw [this]; simp [hm]
          rw [hL, itemsJ]
          by_cases hm : m = 0
          · rw [if_pos hm, List.nil_append]
            rw [show tkJ [if (true : Bool) = true then 125 else 93] (quoteL c.name ++ ([58] ++ (textJ d (c :: r) ++ (ka :: kr)))) = none from by rw [hq]; exact tk_ne y (by decide)]
            simp only
            rw [if_pos hm]
            simp only [if_true]
            rw [hmem]
            simp only
            rw [hv c.name rfl]
            simp only
            exact hfin
          · rw [if_neg hm, show ([44] : List UInt8) ++ (quoteL c.name ++ ([58] ++ (textJ d (c :: r) ++ (ka :: kr)))) = 44 :: (quoteL c.name ++ ([58] ++ (textJ d (c :: r) ++ (ka :: kr)))) from rfl]
            rw [show tkJ [if (true : Bool) = true then 125 else 93] (44 :: (quoteL c.name ++ ([58] ++ (textJ d (c :: r) ++ (ka :: kr))))) = none from tk_ne _ (by decide)]
            simp only
            rw [if_neg hm, tk_one', Option.map_some]
            simp only [if_true]
            rw [show blJ (quoteL c.name ++ ([58] ++ (textJ d (c :: r) ++ (ka :: kr)))) = quoteL c.name ++ ([58] ++ (textJ d (c :: r) ++ (ka :: kr))) from by rw [hq]; exact bl_not 34 y (by decide), hmem]
            simp only
            rw [hv c.name rfl]
            simp only
            exact hfin
        | false =>
          simp only [Bool.not_false, okN, if_true, List.isEmpty_iff] at hok
          have hL : kidsJ (valN d) (textJ d) false (n + 1) (m == 0) (c :: r) ++ endJ false :: rest = (if m = 0 then [] else [44]) ++ (textJ d (c :: r) ++ (ka :: kr)) := by
            rw [kidsJ, hk1, Option.getD_some, ← hkh]
            unfold preJ
            by_cases hm : m = 0
            · subst hm; simp
            · have : (m == 0) = false := by simp [hm]
              rw [this]; simp [hm]
          have hfin2 : itemsJ (valJ d) false g (m + 1) nm (blJ (ka :: kr)) (out ++ (c :: r).take k1) = .ok (m + (n + 1), rest, out ++ (c :: r).take (k1 + k2)) := by
            have hk3 : kidsN (valN d) (!false) n nm ((c :: r).drop k1) = some k2 := by
              rw [← hk2]; exact kidsN_names (valN d) n _ _ _
            rw [bl_not ka kr hkb, hrec _ hk3, htake, List.append_assoc]
            congr 2
            omega
          have hvl := hv [] hok.symm
          rw [ht] at hvl
          rw [hL, itemsJ, ht]
          by_cases hm : m = 0
          · rw [if_pos hm, List.nil_append, List.cons_append]
            rw [show tkJ [if (false : Bool) = true then 125 else 93] (a0 :: (r0 ++ (ka :: kr))) = none from tk_ne _ hbeg]
            simp only
            rw [if_pos hm]
            simp only [Bool.false_eq_true, if_false]
            rw [List.cons_append] at hvl
            rw [hvl]
            simp only
            exact hfin2
          · rw [if_neg hm, show ([44] : List UInt8) ++ (a0 :: r0 ++ ka :: kr) = 44 :: (a0 :: (r0 ++ (ka :: kr))) from rfl]
            rw [show tkJ [if (false : Bool) = true then 125 else 93] (44 :: (a0 :: (r0 ++ (ka :: kr)))) = none from tk_ne _ (by decide)]
            simp only
            rw [if_neg hm, tk_one', Option.map_some]
            simp only [Bool.false_eq_true, if_false]
            rw [bl_not a0 _ hbl]
            rw [List.cons_append] at hvl
            rw [hvl]
            simp only
            exact hfin2
    · cases h
theorem kids_ge (d : Nat) (isL isO : Bool) : ∀ (n : Nat) (first : Bool) (nm : List (List UInt8)) (V : List Cel) (k : Nat), kidsN (valN d) isL n nm V = some k → n ≤ (kidsJ (valN d) (textJ d) isO n first V).length
  | 0, first, nm, V, k, h => Nat.zero_le _
  | n + 1, first, nm, [], k, h => by cases h
  | n + 1, first, nm, c :: r, k, h => by
    rw [kidsN] at h
    split at h
    · split at h
      · cases h
      · rename_i k1 hk1
        rw [Option.map_eq_some_iff] at h
        obtain ⟨k2, hk2, rfl⟩ := h
        have ih := kids_ge d isL isO n false _ _ k2 hk2
        obtain ⟨a0, r0, ht, _⟩ := text_head d _ _ hk1
        rw [kidsJ, hk1, Option.getD_some, List.length_append, List.length_append, ht, List.length_cons]
        omega
    · cases h
theorem val_text_step (d : Nat) (ih : ∀ e, d = e + 1 → ValT e) : ValT d := by
  intro V k name rest out h hg hs hl
  obtain ⟨c, r, rfl⟩ : ∃ c r, V = c :: r := by
    cases V with
    | nil => cases d <;> cases h
    | cons c r => exact ⟨c, r, rfl⟩
  have hone : oneC c = true := by
    cases d <;> (first | rw [valN_zero, headN_cons] at h | rw [valN_more, headN_cons] at h) <;> (cases h1 : oneC c with | true => rfl | false => rw [h1] at h; cases h)
  obtain ⟨v1, v2⟩ := valN_le d _ _ h
  have hfull : out.length ≠ 2048 := by omega
  have hgc : GoodC c := hg c (by
    obtain ⟨k', rfl⟩ : ∃ k', k = k' + 1 := ⟨k - 1, by omega⟩
    rw [List.take_succ_cons]; exact List.mem_cons_self ..)
  cases hn : nestC c with
  | false =>
    have hk1 : k = 1 := by
      cases d <;> (first | rw [valN_zero, headN_cons, hone, hn] at h | rw [valN_more, headN_cons, hone, hn] at h) <;> exact (Option.some.inj h).symm
    subst hk1
    have htx : textJ d (c :: r) = litJ c := by
      cases d <;> (first | rw [textJ_zero, headJ_cons, hn] | rw [textJ_more, headJ_cons, hn]) <;> rfl
    obtain ⟨a, r', hl', b1, b2, b3, b4, hleaf⟩ := leaf_good c hone hn hgc name rest out hs
    rw [htx, valJ, hl', bl_not a r' b4]
    simp only [b1, Bool.not_true, Bool.false_eq_true, if_false]
    rw [if_neg hfull, if_neg (by rintro (e | e); exact b2 e; exact b3 e), ← hl', hleaf]
    rfl
  | true =>
    cases d with
    | zero => rw [valN_zero, headN_cons, hone, hn] at h; cases h
    | succ d =>
      rw [valN_more, headN_cons, hone, hn, if_pos rfl, if_pos rfl, Option.map_eq_some_iff] at h
      obtain ⟨k2, hk2, rfl⟩ := h
      rw [textJ_more, headJ_cons, hn, if_pos rfl]
      obtain ⟨kind, nm, text, num, many⟩ := c
      have hkk : kind = 6 ∨ kind = 7 := by
        unfold nestC at hn
        simpa using hn
      have hone2 : text = [] ∧ num = 0 ∧ 0 ≤ many := by
        unfold oneC at hone
        simp only at hone
        rcases hkk with rfl | rfl
        all_goals
          rw [if_neg (by decide), if_neg (by decide), if_neg (by decide), if_neg (by decide), if_neg (by decide), if_pos (by decide)] at hone
          simpa [Bool.and_eq_true, and_assoc] using hone
      obtain ⟨e1, e2, e3⟩ := hone2
      subst e1; subst e2
      have hmany : ((many.toNat : Nat) : Int) = many := Int.toNat_of_nonneg e3
      simp only at hk2 ⊢
      have hgo := fun (isO : Bool) (hc : (!isO) = (kind == 6)) => items_text d (ih d rfl) isO many.toNat 0 [] r k2 rest (out ++ [⟨if isO then 7 else 6, name, [], 0, 0⟩]) ((kidsJ (valN d) (textJ d) isO many.toNat true r ++ endJ isO :: rest).length + 1) (by rw [hc]; exact hk2) (fun x hx => hg x (by
          rw [show (1 + k2) = k2 + 1 from by omega, List.take_succ_cons]; exact List.mem_cons_of_mem _ hx)) (by rw [List.length_append]; simp only [List.length_cons, List.length_nil]; omega) (by
          have := kids_ge d (kind == 6) isO many.toNat true [] r k2 hk2
          rw [List.length_append]; omega)
      have hbl : ∀ isO, (!isO) = (kind == 6) → blJ (kidsJ (valN d) (textJ d) isO many.toNat true r ++ endJ isO :: rest) = kidsJ (valN d) (textJ d) isO many.toNat true r ++ endJ isO :: rest := fun isO hc => bl_head _ fun x hx => by
        cases hmm : many.toNat with
        | zero =>
          rw [hmm, kidsJ, List.nil_append, List.head?_cons] at hx
          injection hx with hx
          rw [← hx]; cases isO <;> decide
        | succ n =>
          rw [hmm] at hx hk2
          cases r with
          | nil => cases hk2
          | cons c2 r2 =>
            rw [kidsJ] at hx
            cases isO with
            | true =>
              have : ((preJ true true (c2 :: r2) ++ (textJ d (c2 :: r2) ++ kidsJ (valN d) (textJ d) true n false ((c2 :: r2).drop ((valN d (c2 :: r2)).getD 0)))) ++ endJ true :: rest).head? = some 34 := rfl
              rw [this] at hx
              injection hx with hx
              rw [← hx]; decide
            | false =>
              rw [kidsN] at hk2
              split at hk2
              · split at hk2
                · cases hk2
                · rename_i k1 hk1
                  obtain ⟨a0, r0, ht, _, hb0⟩ := text_head d _ _ hk1
                  unfold preJ at hx
                  simp only [if_true, Bool.false_eq_true, if_false, List.nil_append, ht, List.cons_append, List.head?_cons] at hx
                  injection hx with hx
                  rw [← hx]; exact hb0
              · cases hk2
      have hend : (⟨kind, nm, [], 0, many⟩ :: r : List Cel).take (1 + k2) = ⟨kind, nm, [], 0, many⟩ :: r.take k2 := by
        rw [show (1 + k2) = k2 + 1 from by omega, List.take_succ_cons]
      rw [hend, renJ]
      rcases hkk with rfl | rfl
      · have h6 := hgo false rfl
        have hb6 := hbl false rfl
        rw [show ((0 : Nat) == 0) = true from rfl] at h6
        show valJ (d + 1) name ([91] ++ (kidsJ (valN d) (textJ d) false many.toNat true r ++ [93]) ++ rest) out = _
        rw [show [91] ++ (kidsJ (valN d) (textJ d) false many.toNat true r ++ [93]) ++ rest = 91 :: (kidsJ (valN d) (textJ d) false many.toNat true r ++ endJ false :: rest) from by simp [endJ]]
        rw [valJ, bl_not 91 _ (by decide)]
        simp only
        rw [if_neg (show ¬ ((!begJ 91) = true) from by decide), if_neg hfull, if_pos (show (91 : UInt8) = 123 ∨ True from Or.inr trivial), show ((91 : UInt8) == 123) = false from by decide, show (if (91 : UInt8) = 123 then (7 : UInt8) else 6) = 6 from by decide]
        rw [hb6, show (if (false : Bool) = true then (7 : UInt8) else 6) = 6 from rfl] at *
        rw [h6]
        simp only
        rw [Nat.zero_add, List.append_assoc, List.singleton_append, modify_app _ _ _ _ _ rfl, hmany]
      · have h7 := hgo true rfl
        have hb7 := hbl true rfl
        rw [show ((0 : Nat) == 0) = true from rfl] at h7
        show valJ (d + 1) name ([123] ++ (kidsJ (valN d) (textJ d) true many.toNat true r ++ [125]) ++ rest) out = _
        rw [show [123] ++ (kidsJ (valN d) (textJ d) true many.toNat true r ++ [125]) ++ rest = 123 :: (kidsJ (valN d) (textJ d) true many.toNat true r ++ endJ true :: rest) from by simp [endJ]]
        rw [valJ, bl_not 123 _ (by decide)]
        simp only
        rw [if_neg (show ¬ ((!begJ 123) = true) from by decide), if_neg hfull, if_pos (show True ∨ (123 : UInt8) = 91 from Or.inl trivial), show ((123 : UInt8) == 123) = true from by decide, if_pos trivial]
        rw [hb7, show (if (true : Bool) = true then (7 : UInt8) else 6) = 7 from rfl] at *
        rw [h7]
        simp only
        rw [Nat.zero_add, List.append_assoc, List.singleton_append, modify_app _ _ _ _ _ rfl, hmany]
theorem val_text : ∀ d : Nat, ValT d
  | 0 => val_text_step 0 fun e h => by omega
  | d + 1 => val_text_step (d + 1) fun e h => by
    have : e = d := by omega
    subst this
    exact val_text e
theorem bl_blanks (B l : List UInt8) (hB : B.all blankJ = true) : blJ (B ++ l) = blJ l := by
  induction B with
  | nil => rfl
  | cons b B ih =>
    rw [List.all_cons, Bool.and_eq_true] at hB
    unfold blJ at ih ⊢
    rw [List.cons_append, List.dropWhile_cons, hB.1, if_pos rfl]
    exact ih hB.2
theorem val_bl (d : Nat) (name l l' : List UInt8) (out : List Cel) (h : blJ l = blJ l') : valJ d name l out = valJ d name l' out := by
  cases d <;> (rw [valJ, valJ, h])
/-- THE LAW: what is written is read as the same value, blanks around it or none. -/
theorem read_text (V : List Cel) (B B' : List UInt8) (hV : plainB V = true) (hR : ∀ c ∈ V, R c.num) (hB : B.all blankJ = true) (hB' : B'.all blankJ = true) : readJ (B ++ (textJ 16 V ++ B')) = .ok V := by
  unfold plainB mayB at hV
  simp only [Bool.and_eq_true, decide_eq_true_eq, beq_iff_eq, List.all_eq_true, Bool.not_eq_true'] at hV
  obtain ⟨⟨⟨⟨h1, h2⟩, h3⟩, h4⟩, h5⟩ := hV
  obtain ⟨a, r, ht, hb, hbl⟩ := text_head 16 V _ h4
  have hs : StopJ B' := fun c hc => by
    have hcb : blankJ c = true := by
      cases B' with
      | nil => cases hc
      | cons x y =>
        injection hc with hc
        subst hc
        rw [List.all_cons, Bool.and_eq_true] at hB'
        exact hB'.1
    unfold blankJ at hcb
    simp only [Bool.or_eq_true, beq_iff_eq] at hcb
    rcases hcb with ((rfl | rfl) | rfl) | rfl <;> decide
  have hv := val_text 16 V V.length [] B' [] h4 (by
    rw [List.take_length]
    exact fun x hx => ⟨h5 x hx, hR x hx⟩) hs (by simpa using h2)
  unfold readJ
  rw [val_bl 16 [] (B ++ (textJ 16 V ++ B')) (textJ 16 V ++ B') [] (bl_blanks B _ hB), hv]
  simp only
  have hbe : blJ B' = [] := by
    have := bl_blanks B' [] hB'
    rw [List.append_nil] at this
    exact this
  rw [hbe, List.isEmpty_nil, if_pos rfl, List.nil_append, List.take_length]
  cases V with
  | nil => simp at h1
  | cons c r =>
    rw [renJ]
    have : c.name = [] := by simpa using h3
    rw [← this]
end Go.Proofs.YtglhanblbojkhaaGreatDoor
namespace Go.Proofs.YtglhanblbojkhaaGreatDoor
open Go.Lib
theorem valid_ascii : ∀ (l r : List UInt8), (∀ c ∈ l, c.toNat < 128) → validD (l ++ r) = validD r
  | [], r, _ => rfl
  | c :: l, r, h => by
    rw [List.cons_append, valid_cons c _ (h c (by simp)), valid_ascii l r fun x hx => h x (by simp [hx])]
theorem quoteC_ascii (c : UInt8) (h : c.toNat < 128) : ∀ x ∈ quoteC c, x.toNat < 128 := by
  have := (by decide +kernel : ∀ i : Fin 256, i.val < 128 → (quoteC (UInt8.ofNat i.val)).all (fun x => decide (x.toNat < 128)) = true) ⟨c.toNat, UInt8.toNat_lt c⟩ h
  simp only [UInt8.ofNat_toNat] at this
  exact fun x hx => of_decide_eq_true (List.all_eq_true.1 this x hx)
theorem valid_enc (p : Nat) (hp : isPt p = true) (r : List UInt8) : validD (encN p ++ r) = validD r := by
  have hd := decode_enc p hp r
  have hpos : 0 < (encN p).length := by rw [enc_len p hp]; repeat' split
                                        all_goals decide
  have hne : encN p ++ r ≠ [] := by
    intro h
    have := congrArg List.length h
    rw [List.length_append, List.length_nil] at this
    omega
  rw [valid_step _ hne]
  have hw : wellB (encN p ++ r) = true := by
    unfold wellB
    rw [hd]
    simp only [Bool.not_eq_true', decide_eq_false_iff_not]
    rintro ⟨h1, h2⟩
    rw [enc_len p hp, h1] at h2
    exact absurd h2 (by decide)
  rw [hw, Bool.true_and, hd]
  simp only [List.drop_left]
theorem valid_quote : ∀ (n : Nat) (t r : List UInt8), t.length ≤ n → validD t = true → validD (t.flatMap quoteC ++ r) = validD r
  | n, [], r, _, _ => rfl
  | 0, c :: t, r, hn, _ => by simp at hn
  | n + 1, c :: t, r, hn, hv => by
    simp only [List.length_cons] at hn
    by_cases hc : c.toNat < 128
    · have hv2 : validD t = true := by rw [valid_cons c t hc] at hv; exact hv
      rw [List.flatMap_cons, List.append_assoc, valid_ascii _ _ (quoteC_ascii c hc), valid_quote n t r (by omega) hv2]
    · have hs := valid_step (c :: t) (by simp)
      rw [hv] at hs
      have hs2 := hs.symm
      rw [Bool.and_eq_true] at hs2
      obtain ⟨hw, hv2⟩ := hs2
      obtain ⟨d1, d2, d3, d4⟩ := decode_pt (c :: t) (by simp) hw
      obtain ⟨p, hp⟩ : ∃ p, (decodeL (c :: t)).1 = p := ⟨_, rfl⟩
      obtain ⟨m, hm⟩ : ∃ m, (decodeL (c :: t)).2 = m := ⟨_, rfl⟩
      rw [hp, hm] at d4
      rw [hp] at d1
      rw [hm] at d2 d3 hv2
      have hsplit : c :: t = encN p ++ (c :: t).drop m := by rw [d4, List.take_append_drop]
      have hp128 : 128 ≤ p := by
        rcases Nat.lt_or_ge p 128 with h | h
        · have h1 : encN p = [UInt8.ofNat p] := by unfold encN; rw [if_pos h]
          rw [h1] at hsplit
          injection hsplit with h2 h3
          rw [h2, ofN p (by omega)] at hc
          exact absurd h hc
        · exact h
      have hdl : ((c :: t).drop m).length = t.length + 1 - m := by rw [List.length_drop]; rfl
      have hfm : (c :: t).flatMap quoteC = encN p ++ ((c :: t).drop m).flatMap quoteC := by
        conv => lhs; rw [hsplit]
        rw [List.flatMap_append, big_all _ (enc_big p d1 hp128)]
      rw [hfm, List.append_assoc, valid_enc p d1, valid_quote n _ r (by omega) hv2]
theorem valid_quoteL (t r : List UInt8) (hv : validD t = true) : validD (quoteL t ++ r) = validD r := by
  unfold quoteL
  rw [show [34] ++ t.flatMap quoteC ++ [34] ++ r = 34 :: (t.flatMap quoteC ++ 34 :: r) from by simp]
  rw [valid_cons 34 _ (by decide), valid_quote t.length t _ (Nat.le_refl _) hv, valid_cons 34 _ (by decide)]
theorem itoa_ascii (n : Int) : ∀ c ∈ Lib.itoa n, c.toNat < 128 := by
  have h := (read_itoa n).1
  unfold okDigits digitsB at h
  simp only [Bool.and_eq_true, List.all_eq_true] at h
  intro c hc
  have hb : ∀ x ∈ body (Lib.itoa n), isDig x = true := h.1.1
  by_cases h45 : c = 45
  · subst h45; decide
  · refine dig_ascii c (hb c ?_)
    unfold body
    split
    · rename_i hbl
      cases hi : Lib.itoa n with
      | nil => rw [hi] at hc; cases hc
      | cons x y =>
        rw [hi] at hc hbl
        unfold below at hbl
        simp only [beq_iff_eq] at hbl
        rcases List.mem_cons.1 hc with e | e
        · exact absurd (e.trans hbl) h45
        · exact e
    · exact hc
theorem valid_lit (c : Cel) (h1 : oneC c = true) (hn : nestC c = false) (hg : GoodC c) (r : List UInt8) : validD (litJ c ++ r) = validD r := by
  obtain ⟨he, _⟩ := hg
  unfold nestC at hn
  simp only [Bool.or_eq_false_iff, beq_eq_false_iff_ne] at hn he
  unfold oneC at h1
  unfold litJ
  by_cases k0 : c.kind = 0
  · rw [if_pos k0]; exact valid_ascii _ _ (by decide)
  rw [if_neg k0] at h1 ⊢
  by_cases k1 : c.kind = 1
  · rw [if_pos k1]
    split
    · exact valid_ascii _ _ (by decide)
    · exact valid_ascii _ _ (by decide)
  rw [if_neg k1] at h1 ⊢
  by_cases k2 : c.kind = 2
  · rw [if_pos k2]; exact valid_ascii _ _ (itoa_ascii _)
  rw [if_neg k2] at h1 ⊢
  by_cases k3 : c.kind = 3
  · rw [if_pos k3] at h1
    simp only [Bool.and_eq_true] at h1
    unfold textB at h1
    rw [Bool.and_eq_true] at h1
    exact valid_quoteL _ _ h1.1.1.2
  rw [if_neg k3, if_neg (by rintro (e | e); exact he.1 e; exact he.2 e), if_neg (by rintro (e | e); exact hn.1 e; exact hn.2 e)] at h1
  cases h1
def ValV (d : Nat) : Prop := ∀ (V : List Cel) (k : Nat) (r : List UInt8), valN d V = some k → (∀ x ∈ V.take k, GoodC x) → validD (textJ d V ++ r) = validD r
theorem valid_kids (d : Nat) (ih : ValV d) (isO : Bool) : ∀ (n : Nat) (first : Bool) (nm : List (List UInt8)) (V : List Cel) (k : Nat) (r : List UInt8), kidsN (valN d) (!isO) n nm V = some k → (∀ x ∈ V.take k, GoodC x) → validD (kidsJ (valN d) (textJ d) isO n first V ++ r) = validD r
  | 0, first, nm, V, k, r, h, hg => rfl
  | n + 1, first, nm, [], k, r, h, hg => by cases h
  | n + 1, first, nm, c :: t, k, r, h, hg => by
    rw [kidsN] at h
    split at h
    · rename_i hok
      split at h
      · cases h
      · rename_i k1 hk1
        rw [Option.map_eq_some_iff] at h
        obtain ⟨k2, hk2, rfl⟩ := h
        have htake : (c :: t).take (k1 + k2) = (c :: t).take k1 ++ ((c :: t).drop k1).take k2 := List.take_add
        rw [kidsJ, hk1, Option.getD_some, List.append_assoc, List.append_assoc]
        have hpre : ∀ x, validD (preJ isO first (c :: t) ++ x) = validD x := fun x => by
          unfold preJ
          rw [List.append_assoc]
          have hb : ∀ y, validD ((if isO then quoteL ((c :: t).headD ⟨0, [], [], 0, 0⟩).name ++ [58] else []) ++ y) = validD y := fun y => by
            cases isO with
            | false => rfl
            | true =>
              simp only [Bool.not_true, okN, Bool.false_eq_true, if_false, Bool.and_eq_true] at hok
              have htx := hok.1.2
              unfold textB at htx
              rw [Bool.and_eq_true] at htx
              simp only [if_true, List.headD_cons]
              rw [List.append_assoc, valid_quoteL _ _ htx.2]
              exact valid_cons 58 y (by decide)
          cases first with
          | true => exact hb x
          | false =>
            show validD ([44] ++ _) = _
            rw [show ∀ z : List UInt8, ([44] : List UInt8) ++ z = 44 :: z from fun z => rfl, valid_cons 44 _ (by decide)]
            exact hb x
        rw [hpre, ih (c :: t) k1 _ hk1 (fun x hx => hg x (by rw [htake]; exact List.mem_append_left _ hx))]
        exact valid_kids d ih isO n false _ _ k2 r hk2 (fun x hx => hg x (by rw [htake]; exact List.mem_append_right _ hx))
    · cases h
theorem valid_text_step (d : Nat) (ih : ∀ e, d = e + 1 → ValV e) : ValV d := by
  intro V k r h hg
  obtain ⟨c, t, rfl⟩ : ∃ c t, V = c :: t := by
    cases V with
    | nil => cases d <;> cases h
    | cons c t => exact ⟨c, t, rfl⟩
  have hone : oneC c = true := by
    cases d <;> (first | rw [valN_zero, headN_cons] at h | rw [valN_more, headN_cons] at h) <;> (cases h1 : oneC c with | true => rfl | false => rw [h1] at h; cases h)
  obtain ⟨v1, v2⟩ := valN_le d _ _ h
  have hgc : GoodC c := hg c (by
    obtain ⟨k', rfl⟩ : ∃ k', k = k' + 1 := ⟨k - 1, by omega⟩
    rw [List.take_succ_cons]; exact List.mem_cons_self ..)
  cases hn : nestC c with
  | false =>
    have htx : textJ d (c :: t) = litJ c := by
      cases d <;> (first | rw [textJ_zero, headJ_cons, hn] | rw [textJ_more, headJ_cons, hn]) <;> rfl
    rw [htx]; exact valid_lit c hone hn hgc r
  | true =>
    cases d with
    | zero => rw [valN_zero, headN_cons, hone, hn] at h; cases h
    | succ d =>
      rw [valN_more, headN_cons, hone, hn, if_pos rfl, if_pos rfl, Option.map_eq_some_iff] at h
      obtain ⟨k2, hk2, rfl⟩ := h
      rw [textJ_more, headJ_cons, hn, if_pos rfl, List.append_assoc, List.append_assoc]
      rw [valid_ascii _ _ (by cases c.kind == 6 <;> decide)]
      rw [valid_kids d (ih d rfl) (!(c.kind == 6)) _ true [] t k2 _ (by rw [Bool.not_not]; exact hk2) (fun x hx => hg x (by
        rw [show (1 + k2) = k2 + 1 from by omega, List.take_succ_cons]; exact List.mem_cons_of_mem _ hx))]
      exact valid_ascii _ _ (by cases c.kind == 6 <;> decide)
theorem valid_text : ∀ d : Nat, ValV d
  | 0 => valid_text_step 0 fun e h => by omega
  | d + 1 => valid_text_step (d + 1) fun e h => by
    have : e = d := by omega
    subst this
    exact valid_text e
theorem plain_good (V : List Cel) (hV : plainB V = true) (hR : ∀ c ∈ V, R c.num) : valN 16 V = some V.length ∧ (∀ x ∈ V.take V.length, GoodC x) := by
  unfold plainB mayB at hV
  simp only [Bool.and_eq_true, decide_eq_true_eq, beq_iff_eq, List.all_eq_true, Bool.not_eq_true'] at hV
  refine ⟨hV.1.2, ?_⟩
  rw [List.take_length]
  exact fun x hx => ⟨hV.2 x hx, hR x hx⟩
theorem blank_asc (B : List UInt8) (hB : B.all blankJ = true) : ∀ c ∈ B, c.toNat < 128 := fun c hc => blank_ascii c (List.all_eq_true.1 hB c hc)
/-- What is written is a text that is read as the same value, blanks around it or none. -/
theorem back_read (V : List Cel) (B B' : List UInt8) (hV : plainB V = true) (hR : ∀ c ∈ V, R c.num) (hB : B.all blankJ = true) (hB' : B'.all blankJ = true) :
    validD (B ++ (textJ 16 V ++ B')) = true ∧ readJ (B ++ (textJ 16 V ++ B')) = .ok V := by
  obtain ⟨g1, g2⟩ := plain_good V hV hR
  refine ⟨?_, read_text V B B' hV hR hB hB'⟩
  rw [valid_ascii B _ (blank_asc B hB), valid_text 16 V V.length B' g1 g2]
  have := valid_ascii B' [] (blank_asc B' hB')
  rw [List.append_nil] at this
  rw [this]
  rfl
end Go.Proofs.YtglhanblbojkhaaGreatDoor
namespace Go.Proofs.YtglhanblbojkhaaGreatDoor
open Go.Lib
def qlen (p : Nat) : Nat := ((encN p).flatMap quoteC).length
theorem qlen_le (p : Nat) (hp : isPt p = true) : qlen p ≤ 6 ∧ (128 ≤ p → qlen p = (encN p).length) := by
  unfold qlen
  by_cases h : p < 128
  · refine ⟨?_, fun h' => absurd h (by omega)⟩
    have : encN p = [UInt8.ofNat p] := by unfold encN; rw [if_pos h]
    rw [this]
    simp only [List.flatMap_cons, List.flatMap_nil, List.append_nil]
    exact quoteC_len' _
  · have hb := big_all _ (enc_big p hp (by omega))
    rw [hb]
    refine ⟨?_, fun _ => rfl⟩
    rw [enc_len p hp]
    repeat' split
    all_goals decide
theorem esc_len (r : List UInt8) (p : Nat) (t : List UInt8) (h : escJ r = some (p, t)) : qlen p + t.length ≤ r.length + 1 := by
  have hpt := (cut_esc r p t h).2.2
  have h6 := (qlen_le p hpt).1
  cases r with
  | nil => cases h
  | cons c r =>
    unfold escJ at h
    simp only at h
    cases hl : letJ c with
    | some q =>
      rw [hl] at h
      injection h with h; injection h with h1 h2
      subst h1; subst h2
      have : qlen q ≤ 2 := by
        have := (by decide +kernel : ∀ i : Fin 256, (match letJ (UInt8.ofNat i.val) with | some q => decide (qlen q ≤ 2) | none => true) = true) ⟨c.toNat, UInt8.toNat_lt c⟩
        simp only [UInt8.ofNat_toNat, hl] at this
        exact of_decide_eq_true this
      rw [List.length_cons]; omega
    | none =>
      rw [hl] at h
      simp only at h
      split at h
      · cases h
      · cases hx : hexsJ 4 0 r with
        | none => rw [hx] at h; cases h
        | some y =>
          obtain ⟨n, u⟩ := y
          rw [hx] at h
          simp only at h
          have e1 := (cut_hexs 4 0 r n u hx).2
          split at h
          · cases h
          · split at h
            · unfold lowJ at h
              cases hk : tkJ [92, 117] u with
              | none => rw [hk] at h; cases h
              | some u2 =>
                rw [hk] at h
                simp only at h
                have e2 := (cut_tk _ _ _ (by decide) hk).2
                cases hx2 : hexsJ 4 0 u2 with
                | none => rw [hx2] at h; cases h
                | some y2 =>
                  obtain ⟨m, u3⟩ := y2
                  rw [hx2] at h
                  simp only at h
                  have e3 := (cut_hexs 4 0 u2 m u3 hx2).2
                  split at h
                  · cases h
                  · injection h with h; injection h with h1 h2
                    subst h2
                    rw [List.length_cons]; omega
            · injection h with h; injection h with h1 h2
              subst h2
              rw [List.length_cons]; omega
theorem strGo_len : ∀ (f : Nat) (l : List UInt8) (P : List Nat) (t : List UInt8), validD l = true → strGo f l = some (P, t) → ((P.flatMap encN).flatMap quoteC).length + 1 + t.length ≤ l.length ∧ validD (P.flatMap encN) = true
  | 0, l, P, t, _, h => by rw [strGo] at h; cases h
  | f + 1, [], P, t, _, h => by rw [strGo] at h; cases h
  | f + 1, c :: r, P, t, hv, h => by
    rw [strGo] at h
    split at h
    · injection h with h; injection h with h1 h2
      subst h1; subst h2
      exact ⟨by simp; omega, rfl⟩
    · rename_i h34
      split at h
      · cases h
      · rename_i h32
        split at h
        · rename_i hc
          subst hc
          cases he : escJ r with
          | none => rw [he] at h; cases h
          | some pt =>
            obtain ⟨p, t1⟩ := pt
            rw [he] at h
            simp only at h
            obtain ⟨k1, k2, k3⟩ := cut_esc r p t1 he
            have k0 := cut_cons 92 r (by decide)
            cases hg : strGo f t1 with
            | none => rw [hg] at h; cases h
            | some x =>
              obtain ⟨Q, u⟩ := x
              rw [hg] at h
              injection h with h; injection h with h1 h2
              simp only at h1 h2
              subst h1; subst h2
              obtain ⟨g1, g2⟩ := strGo_len f t1 Q u ((k0.trans k1).2 hv) hg
              have e1 := esc_len r p t1 he
              unfold qlen at e1
              refine ⟨?_, by rw [List.flatMap_cons, valid_enc p k3]; exact g2⟩
              rw [List.flatMap_cons, List.flatMap_append, List.length_append, List.length_cons]
              omega
        · rename_i h92
          have hs := valid_step (c :: r) (by simp)
          rw [hv] at hs
          have hs2 := hs.symm
          rw [Bool.and_eq_true] at hs2
          obtain ⟨hw, hv2⟩ := hs2
          obtain ⟨d1, d2, d3, d4⟩ := decode_pt (c :: r) (by simp) hw
          cases hg : strGo f ((c :: r).drop (decodeL (c :: r)).2) with
          | none => rw [hg] at h; cases h
          | some x =>
            obtain ⟨Q, u⟩ := x
            rw [hg] at h
            injection h with h; injection h with h1 h2
            simp only at h1 h2
            subst h1; subst h2
            obtain ⟨g1, g2⟩ := strGo_len f _ Q u hv2 hg
            have hq : qlen (decodeL (c :: r)).1 ≤ (decodeL (c :: r)).2 := by
              have hel : (encN (decodeL (c :: r)).1).length = (decodeL (c :: r)).2 := by rw [d4, List.length_take]; omega
              by_cases hb : 128 ≤ (decodeL (c :: r)).1
              · rw [(qlen_le _ d1).2 hb, hel]; exact Nat.le_refl _
              · have h1 : encN (decodeL (c :: r)).1 = [UInt8.ofNat (decodeL (c :: r)).1] := by unfold encN; rw [if_pos (by omega)]
                have hm : (decodeL (c :: r)).2 = 1 := by rw [← hel, h1]; rfl
                have hcq : c = UInt8.ofNat (decodeL (c :: r)).1 := by
                  rw [h1, hm, List.take_succ_cons] at d4
                  injection d4 with d4 _
                  exact d4.symm
                unfold qlen
                rw [h1, ← hcq, hm]
                simp only [List.flatMap_cons, List.flatMap_nil, List.append_nil]
                have hc128 : c.toNat < 128 := by rw [hcq, ofN _ (by omega)]; omega
                have := (by decide +kernel : ∀ i : Fin 256, i.val < 128 → ¬ UInt8.ofNat i.val = 34 → ¬ i.val < 32 → ¬ UInt8.ofNat i.val = 92 → (quoteC (UInt8.ofNat i.val)).length ≤ 1) ⟨c.toNat, UInt8.toNat_lt c⟩ hc128
                simp only [UInt8.ofNat_toNat] at this
                exact this h34 h32 h92
            unfold qlen at hq
            have hdl : ((c :: r).drop (decodeL (c :: r)).2).length = (c :: r).length - (decodeL (c :: r)).2 := List.length_drop
            refine ⟨?_, by rw [List.flatMap_cons, valid_enc _ d1]; exact g2⟩
            rw [List.flatMap_cons, List.flatMap_append, List.length_append]
            omega
theorem str_len (l s t : List UInt8) (hv : validD l = true) (h : strJ l = some (s, t)) : (quoteL s).length + t.length ≤ l.length ∧ validD s = true := by
  unfold strJ at h
  cases ht : tkJ [34] l with
  | none => rw [ht] at h; cases h
  | some r =>
    rw [ht] at h
    obtain ⟨k1, k2⟩ := cut_tk _ _ _ (by decide) ht
    simp only at h
    cases hg : strGo r.length r with
    | none => rw [hg] at h; cases h
    | some x =>
      obtain ⟨P, u⟩ := x
      rw [hg] at h
      injection h with h; injection h with h1 h2
      simp only at h1 h2
      subst h1; subst h2
      obtain ⟨g1, g2⟩ := strGo_len _ r P u (k1.2 hv) hg
      refine ⟨?_, g2⟩
      unfold quoteL
      simp only [List.length_append, List.length_cons, List.length_nil] at k2 ⊢
      omega
theorem quote_ge (s : List UInt8) : s.length + 2 ≤ (quoteL s).length := by
  unfold quoteL
  have := flat_quote_len s
  simp only [List.length_append, List.length_cons, List.length_nil]
  omega
theorem mem_len (nm : List (List UInt8)) (l s t : List UInt8) (hv : validD l = true) (h : memJ nm l = .ok (s, t)) : (quoteL s).length + 1 + t.length ≤ l.length ∧ validD s = true ∧ s.isEmpty = false ∧ nm.contains s = false := by
  unfold memJ at h
  cases hs : strJ l with
  | none => rw [hs] at h; cases h
  | some x =>
    obtain ⟨q, u⟩ := x
    rw [hs] at h
    obtain ⟨k1, k2⟩ := str_len l q u hv hs
    simp only at h
    split at h
    · cases h
    · rename_i hc
      split at h
      · cases h
      · rename_i he
        cases ht : tkJ [58] (blJ u) with
        | none => rw [ht] at h; cases h
        | some r =>
          rw [ht] at h
          injection h with h; injection h with h1 h2
          subst h1; subst h2
          have g2 := (cut_tk _ _ _ (by decide) ht).2
          have b1 := (cut_bl u).1
          simp only [List.length_cons, List.length_nil] at g2
          exact ⟨by omega, k2, by simpa using he, by simpa using hc⟩
theorem num_len (l : List UInt8) (n : Int) (t : List UInt8) (h : numJ l = .ok (n, t)) : (Lib.itoa n).length + t.length ≤ l.length ∧ R n := by
  unfold numJ at h
  simp only at h
  by_cases hd : (wholeJ (body l)).isEmpty = true
  · rw [if_pos hd] at h; cases h
  · rw [if_neg hd] at h
    obtain ⟨l2, hl2⟩ : ∃ l2, (body l).drop (wholeJ (body l)).length = l2 := ⟨_, rfl⟩
    obtain ⟨tt, htt⟩ : ∃ tt, (if below l then ([45] : List UInt8) else []) ++ wholeJ (body l) = tt := ⟨_, rfl⟩
    rw [hl2, htt] at h
    split at h
    · cases h
    · rename_i hc
      simp only [Bool.or_eq_true, not_or, Bool.not_eq_true, Option.isSome_eq_false_iff, Option.isNone_iff_eq_none, bne_iff_ne, ne_eq, Decidable.not_not] at hc
      obtain ⟨⟨c1, c2⟩, c3⟩ := hc
      injection h with h; injection h with h1 h2
      rw [c1, Option.getD_none] at c2 h2
      rw [c2, Option.getD_none] at h2
      subst h1; subst h2
      have c3 : rdE tt = 0 := by simpa using c3
      have hle : (wholeJ (body l)).length ≤ (body l).length := by
        have := congrArg List.length (whole_pre (body l)).1
        rw [List.length_take] at this
        omega
      have e2 : l2.length = (body l).length - (wholeJ (body l)).length := by rw [← hl2]; exact List.length_drop
      have e1 : tt.length + l2.length = l.length := by
        rw [← htt, List.length_append]
        have hb : (body l).length + (if below l then ([45] : List UInt8) else []).length = l.length := by
          unfold body
          cases hx : below l with
          | true =>
            cases l with
            | nil => cases hx
            | cons a b => simp
          | false => simp
        omega
      refine ⟨?_, ?_⟩
      · rcases itoa_read tt c3 with e | ⟨e, e0⟩
        · rw [e]; omega
        · rw [e0]
          rw [e] at e1
          have : (Lib.itoa 0).length = 1 := by decide +kernel
          simp only [List.length_cons, List.length_nil] at e1
          omega
      · unfold rdV
        split
        · exact val_R _
        · exact ⟨by omega, by omega⟩
theorem kidsN_app (val : List Cel → Option Nat) (txt : List Cel → List UInt8) (hv : ∀ V W k, val V = some k → val (V ++ W) = some k ∧ txt (V ++ W) = txt V) (isL isO : Bool) : ∀ (n : Nat) (first : Bool) (nm : List (List UInt8)) (V W : List Cel) (k : Nat), (∀ l j, val l = some j → j ≤ l.length) → kidsN val isL n nm V = some k → kidsN val isL n nm (V ++ W) = some k ∧ kidsJ val txt isO n first (V ++ W) = kidsJ val txt isO n first V
  | 0, first, nm, V, W, k, _, h => ⟨h, rfl⟩
  | n + 1, first, nm, [], W, k, _, h => by cases h
  | n + 1, first, nm, c :: r, W, k, hle, h => by
    rw [kidsN] at h
    split at h
    · rename_i hok
      split at h
      · cases h
      · rename_i k1 hk1
        rw [Option.map_eq_some_iff] at h
        obtain ⟨k2, hk2, rfl⟩ := h
        obtain ⟨e1, e2⟩ := hv (c :: r) W k1 hk1
        have hl := hle _ _ hk1
        have hd : ((c :: r) ++ W).drop k1 = (c :: r).drop k1 ++ W := by
          rw [List.drop_append_of_le_length hl]
        obtain ⟨g1, g2⟩ := kidsN_app val txt hv isL isO n false _ ((c :: r).drop k1) W k2 hle hk2
        refine ⟨?_, ?_⟩
        · rw [List.cons_append, kidsN, if_pos hok]
          rw [List.cons_append] at e1 hd
          rw [e1]
          simp only
          rw [hd, g1]
          rfl
        · rw [kidsJ, kidsJ, e1, hk1, Option.getD_some, e2, hd, g2]
          rfl
    · cases h
theorem valN_app : ∀ (d : Nat) (V W : List Cel) (k : Nat), valN d V = some k → valN d (V ++ W) = some k ∧ textJ d (V ++ W) = textJ d V
  | d, [], W, k, h => by cases d <;> cases h
  | 0, c :: r, W, k, h => by
    rw [List.cons_append]
    rw [valN_zero, headN_cons] at h ⊢
    refine ⟨?_, ?_⟩
    · cases h1 : oneC c with
      | false => rw [h1] at h; cases h
      | true =>
        cases h2 : nestC c with
        | true => rw [h1, h2] at h; cases h
        | false => rw [h1, h2] at h; exact h
    · rw [textJ_zero, textJ_zero, headJ_cons, headJ_cons]
  | d + 1, c :: r, W, k, h => by
    rw [List.cons_append]
    rw [valN_more, headN_cons] at h ⊢
    rw [textJ_more, textJ_more, headJ_cons, headJ_cons]
    cases h1 : oneC c with
    | false => rw [h1] at h; cases h
    | true =>
      cases h2 : nestC c with
      | false => rw [h1, h2] at h; exact ⟨h, rfl⟩
      | true =>
        rw [h1, h2, if_pos rfl, if_pos rfl, Option.map_eq_some_iff] at h
        obtain ⟨k2, hk2, rfl⟩ := h
        obtain ⟨g1, g2⟩ := kidsN_app (valN d) (textJ d) (fun V W k => valN_app d V W k) (c.kind == 6) (!(c.kind == 6)) c.many.toNat true [] r W k2 (fun l j hj => (valN_le d l j hj).2) hk2
        rw [if_pos rfl, if_pos rfl, if_pos rfl, if_pos rfl, g1, g2]
        exact ⟨rfl, rfl⟩
/-- A cell that was read, of so many bytes. -/
def OkO (n : Nat) (x : Cel) : Prop := (x.kind == 4 || x.kind == 5) = false ∧ R x.num ∧ R x.many ∧ x.text.length ≤ n
theorem OkO.mono {n m : Nat} {x : Cel} (h : OkO n x) (hm : n ≤ m) : OkO m x := ⟨h.1, h.2.1, h.2.2.1, Nat.le_trans h.2.2.2 hm⟩
def ValO (d : Nat) : Prop := ∀ (name l : List UInt8) (out : List Cel) (t : List UInt8) (o2 : List Cel), l.length ≤ 16384 → validD l = true → valJ d name l out = .ok (t, o2) →
  ∃ c new, o2 = out ++ c :: new ∧ c.name = name ∧ valN d (c :: new) = some (new.length + 1) ∧ (∀ x ∈ c :: new, OkO l.length x) ∧ (∀ x ∈ new, x.name.length ≤ l.length) ∧ (textJ d (c :: new)).length + t.length ≤ l.length
theorem R_zero : R 0 := ⟨by omega, by omega⟩
theorem leaf_one (name : List UInt8) (a : UInt8) (l : List UInt8) (out : List Cel) (t : List UInt8) (o2 : List Cel) (hl : l.length ≤ 16384) (hv : validD l = true) (h : leafJ name a l out = .ok (t, o2)) :
    ∃ c : Cel, o2 = out ++ [c] ∧ c.name = name ∧ oneC c = true ∧ nestC c = false ∧ OkO l.length c ∧ (litJ c).length + t.length ≤ l.length := by
  have tk : ∀ (w : List UInt8) (x : Cel), (∀ c ∈ w, c.toNat < 128) → (match tkJ w l with | none => (.error 40 : Except Int (List UInt8 × List Cel)) | some t => .ok (t, out ++ [x])) = .ok (t, o2) → o2 = out ++ [x] ∧ w.length + t.length ≤ l.length := by
    intro w x hw h
    cases hs : tkJ w l with
    | none => rw [hs] at h; cases h
    | some u =>
      rw [hs] at h
      injection h with h; injection h with h1 h2
      subst h1; subst h2
      have := (cut_tk _ _ _ hw hs).2
      exact ⟨rfl, by omega⟩
  unfold leafJ at h
  split at h
  · cases hs : strJ l with
    | none => rw [hs] at h; cases h
    | some y =>
      obtain ⟨s, u⟩ := y
      rw [hs] at h
      injection h with h; injection h with h1 h2
      subst h1; subst h2
      obtain ⟨k1, k2⟩ := str_len l s u hv hs
      have k3 := quote_ge s
      refine ⟨_, rfl, rfl, ?_, rfl, ⟨rfl, R_zero, R_zero, by show s.length ≤ _; omega⟩, ?_⟩
      · unfold oneC textB
        simp only
        rw [if_neg (by decide), if_neg (by decide), if_neg (by decide), if_pos (by decide), k2, decide_eq_true (by omega)]
        rfl
      · exact k1
  split at h
  · obtain ⟨e1, e2⟩ := tk [116, 114, 117, 101] _ (by decide) h
    exact ⟨_, e1, rfl, rfl, rfl, ⟨rfl, (show R 1 from ⟨by omega, by omega⟩), R_zero, Nat.zero_le _⟩, e2⟩
  split at h
  · obtain ⟨e1, e2⟩ := tk [102, 97, 108, 115, 101] _ (by decide) h
    exact ⟨_, e1, rfl, rfl, rfl, ⟨rfl, R_zero, R_zero, Nat.zero_le _⟩, e2⟩
  split at h
  · obtain ⟨e1, e2⟩ := tk [110, 117, 108, 108] _ (by decide) h
    exact ⟨_, e1, rfl, rfl, rfl, ⟨rfl, R_zero, R_zero, Nat.zero_le _⟩, e2⟩
  · cases hs : numJ l with
    | error e => rw [hs] at h; cases h
    | ok y =>
      obtain ⟨n, u⟩ := y
      rw [hs] at h
      injection h with h; injection h with h1 h2
      subst h1; subst h2
      obtain ⟨k1, k2⟩ := num_len l n u hs
      exact ⟨_, rfl, rfl, rfl, rfl, ⟨rfl, k2, R_zero, Nat.zero_le _⟩, k1⟩
theorem items_one (d : Nat) (ih : ValO d) (isO : Bool) : ∀ (f n : Nat) (nm : List (List UInt8)) (l : List UInt8) (out : List Cel) (k : Nat) (t : List UInt8) (o2 : List Cel), l.length ≤ 16384 → validD l = true → itemsJ (valJ d) isO f n nm l out = .ok (k, t, o2) →
    ∃ j new, k = n + j ∧ o2 = out ++ new ∧ kidsN (valN d) (!isO) j nm new = some new.length ∧ (∀ x ∈ new, OkO l.length x ∧ x.name.length ≤ l.length) ∧ (kidsJ (valN d) (textJ d) isO j (n == 0) new).length + 1 + t.length ≤ l.length
  | 0, n, nm, l, out, k, t, o2, _, _, h => by rw [itemsJ] at h; cases h
  | f + 1, n, nm, l, out, k, t, o2, hl, hv, h => by
    rw [itemsJ] at h
    cases ht : tkJ [if isO then 125 else 93] l with
    | some r =>
      rw [ht] at h
      injection h with h; injection h with h1 h2; injection h2 with h2 h3
      subst h1; subst h2; subst h3
      have k2 := (cut_tk _ _ _ (by cases isO <;> decide) ht).2
      simp only [List.length_cons, List.length_nil] at k2
      exact ⟨0, [], rfl, by simp, rfl, (fun x hx => by cases hx), by rw [kidsJ, List.length_nil]; omega⟩
    | none =>
      rw [ht] at h
      simp only at h
      cases hc : (if n = 0 then some l else (tkJ [44] l).map blJ) with
      | none => rw [hc] at h; cases h
      | some l1 =>
        rw [hc] at h
        simp only at h
        have c1 : Cut l l1 ∧ l1.length + (if n = 0 then 0 else 1) ≤ l.length := by
          split at hc
          · rename_i hn
            injection hc with hc; subst hc; exact ⟨Cut.refl _, by rw [if_pos hn]; omega⟩
          · rename_i hn
            cases hk : tkJ [44] l with
            | none => rw [hk] at hc; cases hc
            | some r =>
              rw [hk] at hc
              injection hc with hc
              subst hc
              obtain ⟨g1, g2⟩ := cut_tk _ _ _ (by decide) hk
              have b1 := cut_bl r
              have b2 := b1.1
              simp only [List.length_cons, List.length_nil] at g2
              exact ⟨g1.trans b1, by rw [if_neg hn]; omega⟩
        obtain ⟨c1, c1l⟩ := c1
        have hv1 := c1.2 hv
        cases hm : (if isO then memJ nm l1 else .ok ([], l1)) with
        | error e => rw [hm] at h; cases h
        | ok x =>
          obtain ⟨s, l2⟩ := x
          rw [hm] at h
          simp only at h
          have c2 : Cut l1 l2 ∧ (if isO then (quoteL s).length + 1 else 0) + l2.length ≤ l1.length ∧ okN (!isO) nm s = true ∧ s.length ≤ l1.length := by
            cases isO with
            | true =>
              simp only [if_true] at hm ⊢
              obtain ⟨m1, m2, m3, m4⟩ := mem_len nm l1 s l2 hv1 hm
              have m5 := quote_ge s
              refine ⟨(cut_mem nm l1 s l2 hv1 hm).1, by omega, ?_, by omega⟩
              unfold okN textB
              rw [among_cont, m2, m3, m4, decide_eq_true (by omega)]
              rfl
            | false =>
              simp only [Bool.false_eq_true, if_false] at hm ⊢
              injection hm with hm; injection hm with h1 h2
              subst h1; subst h2
              exact ⟨Cut.refl _, by omega, rfl, Nat.zero_le _⟩
          obtain ⟨c2, c2l, hok, hsl⟩ := c2
          cases hx : valJ d s l2 out with
          | error e => rw [hx] at h; cases h
          | ok y =>
            obtain ⟨l3, out2⟩ := y
            rw [hx] at h
            simp only at h
            have g2 := c2.1
            have g1 := c1.1
            have hv2 := c2.2 hv1
            obtain ⟨c, new1, rfl, v1, v2, v3, v4, v5⟩ := ih s l2 out l3 out2 (by omega) hv2 hx
            have c3 := (cut_val d s l2 out l3 _ hv2 hx).1
            have c4 := cut_bl l3
            have g3 := c3.1
            have g4 := c4.1
            obtain ⟨j, new2, e1, e2, e3, e4, e5⟩ := items_one d ih isO f (n + 1) (if isO then s :: nm else nm) (blJ l3) (out ++ c :: new1) k t o2 (by omega) ((c3.trans c4).2 hv2) h
            have hva := valN_app d (c :: new1) new2 (new1.length + 1) v2
            rw [List.cons_append] at hva
            have hdrop : (c :: (new1 ++ new2)).drop (new1.length + 1) = new2 := by
              rw [List.drop_succ_cons, List.drop_left]
            have hk3 : kidsN (valN d) (!isO) j (c.name :: nm) new2 = some new2.length := by
              rw [v1]
              cases isO with
              | true => exact e3
              | false => rw [← e3]; exact kidsN_names (valN d) j _ _ _
            refine ⟨j + 1, c :: new1 ++ new2, by omega, by rw [e2]; simp, ?_, ?_, ?_⟩
            · rw [List.cons_append, kidsN, v1, if_pos hok, hva.1]
              simp only
              rw [hdrop, ← v1, hk3]
              simp only [Option.map_some, List.length_cons, List.length_append]
              congr 1; omega
            · intro x hx
              rcases List.mem_append.1 hx with hx | hx
              · refine ⟨(v3 x hx).mono (by omega), ?_⟩
                rcases List.mem_cons.1 hx with e | hx
                · rw [e, v1]; omega
                · exact Nat.le_trans (v4 x hx) (by omega)
              · exact ⟨(e4 x hx).1.mono (by omega), Nat.le_trans (e4 x hx).2 (by omega)⟩
            · rw [List.cons_append, kidsJ, hva.1, Option.getD_some, hva.2, hdrop]
              rw [show ((n + 1 == 0) : Bool) = false from by simp] at e5
              have hpre : (preJ isO (n == 0) (c :: (new1 ++ new2))).length = (if n = 0 then 0 else 1) + (if isO then (quoteL s).length + 1 else 0) := by
                unfold preJ
                rw [List.headD_cons, v1]
                by_cases hn : n = 0
                · subst hn
                  cases isO <;> simp
                · have : (n == 0) = false := by simp [hn]
                  rw [this, if_neg hn]
                  cases isO <;> simp <;> omega
              rw [List.length_append, List.length_append, hpre]
              omega
theorem val_one_step (d : Nat) (ih : ∀ e, d = e + 1 → ValO e) : ValO d := by
  intro name l out t o2 hl hv h
  have hh := h
  unfold valJ at h
  have b := cut_bl l
  have b1 := b.1
  cases hb : blJ l with
  | nil => rw [hb] at h; simp at h
  | cons c r =>
    rw [hb] at h b b1
    simp only at h
    split at h
    · cases h
    · split at h
      · cases h
      · split at h
        · rename_i hc
          cases d with
          | zero => simp at h
          | succ d =>
            simp only at h
            have c0 : Cut (c :: r) r := cut_cons c r (by rcases hc with hc | hc <;> (subst hc; decide))
            have c1 := cut_bl r
            have l1 := c1.1
            simp only [List.length_cons] at b1
            have hvr := ((b.trans c0).trans c1).2 hv
            cases hi : itemsJ (valJ d) (c == 123) (r.length + 1) 0 [] (blJ r) (out ++ [⟨if c = 123 then 7 else 6, name, [], 0, 0⟩]) with
            | error e => rw [hi] at h; cases h
            | ok y =>
              obtain ⟨n, u, o3⟩ := y
              rw [hi] at h
              injection h with h; injection h with h1 h2
              subst h1; subst h2
              obtain ⟨j, new, e1, e2, e3, e4, e5⟩ := items_one d (ih d rfl) (c == 123) _ 0 [] (blJ r) _ n u o3 (by omega) hvr hi
              obtain ⟨_, _, _, hn, _⟩ := cut_items _ (cut_val d) _ _ _ _ _ _ _ _ _ hvr hi
              subst e2
              have ej : n = j := by omega
              subst ej
              refine ⟨⟨if c = 123 then 7 else 6, name, [], 0, (n : Int)⟩, new, ?_, rfl, ?_, ?_, ?_, ?_⟩
              · rw [List.append_assoc, List.singleton_append, modify_app _ _ _ _ _ rfl]
              · rw [valN_more, headN_cons]
                rcases hc with hc | hc
                · subst hc
                  have hone : oneC ⟨if (123 : UInt8) = 123 then 7 else 6, name, [], 0, (n : Int)⟩ = true := by
                    unfold oneC; simp
                  rw [hone]
                  have hk : kidsN (valN d) ((7 : UInt8) == 6) n [] new = some new.length := e3
                  show (if nestC ⟨7, name, [], 0, (n : Int)⟩ then (kidsN (valN d) ((7 : UInt8) == 6) ((n : Int).toNat) [] new).map (1 + ·) else some 1) = _
                  rw [if_pos (show nestC _ = true from rfl), Int.toNat_natCast, hk]
                  simp only [Option.map_some]
                  congr 1; omega
                · subst hc
                  have hone : oneC ⟨if (91 : UInt8) = 123 then 7 else 6, name, [], 0, (n : Int)⟩ = true := by
                    unfold oneC; simp
                  rw [hone]
                  have hk : kidsN (valN d) ((6 : UInt8) == 6) n [] new = some new.length := e3
                  show (if nestC ⟨6, name, [], 0, (n : Int)⟩ then (kidsN (valN d) ((6 : UInt8) == 6) ((n : Int).toNat) [] new).map (1 + ·) else some 1) = _
                  rw [if_pos (show nestC _ = true from rfl), Int.toNat_natCast, hk]
                  simp only [Option.map_some]
                  congr 1; omega
              · intro x hx
                rcases List.mem_cons.1 hx with e | hx
                · rw [e]
                  refine ⟨?_, R_zero, ⟨by show _ ≤ (n : Int); omega, by show (n : Int) ≤ _; omega⟩, Nat.zero_le _⟩
                  rcases hc with hc | hc <;> (subst hc; rfl)
                · exact (e4 x hx).1.mono (by omega)
              · exact fun x hx => Nat.le_trans (e4 x hx).2 (by omega)
              · rw [textJ_more, headJ_cons]
                rcases hc with hc | hc
                · subst hc
                  have e5' : (kidsJ (valN d) (textJ d) true n true new).length + 1 + u.length ≤ (blJ r).length := e5
                  show ((if nestC ⟨7, name, [], 0, (n : Int)⟩ then [123] ++ (kidsJ (valN d) (textJ d) true ((n : Int).toNat) true new ++ [125]) else _) : List UInt8).length + _ ≤ _
                  rw [if_pos (show nestC _ = true from rfl), Int.toNat_natCast, List.length_append, List.length_append]
                  simp only [List.length_cons, List.length_nil]
                  omega
                · subst hc
                  have e5' : (kidsJ (valN d) (textJ d) false n true new).length + 1 + u.length ≤ (blJ r).length := e5
                  show ((if nestC ⟨6, name, [], 0, (n : Int)⟩ then [91] ++ (kidsJ (valN d) (textJ d) false ((n : Int).toNat) true new ++ [93]) else _) : List UInt8).length + _ ≤ _
                  rw [if_pos (show nestC _ = true from rfl), Int.toNat_natCast, List.length_append, List.length_append]
                  simp only [List.length_cons, List.length_nil]
                  omega
        · obtain ⟨x, e1, e2, e3, e4, e5, e6⟩ := leaf_one name c (c :: r) out t o2 (by omega) (b.2 hv) h
          refine ⟨x, [], e1, e2, ?_, ?_, (fun x hx => by cases hx), ?_⟩
          · cases d <;> (first | rw [valN_zero, headN_cons, e3, e4] | rw [valN_more, headN_cons, e3, e4]) <;> rfl
          · intro y hy
            rw [List.mem_singleton] at hy
            rw [hy]
            exact e5.mono b1
          · have : textJ d [x] = litJ x := by
              cases d <;> (first | rw [textJ_zero, headJ_cons, e4] | rw [textJ_more, headJ_cons, e4]) <;> rfl
            rw [this]; omega
theorem val_one : ∀ d : Nat, ValO d
  | 0 => val_one_step 0 fun e h => by omega
  | d + 1 => val_one_step (d + 1) fun e h => by
    have : e = d := by omega
    subst this
    exact val_one e
/-- THE LAW: what is read is plain, its parts are short, and its JSON is no longer. -/
theorem read_one (l : List UInt8) (V : List Cel) (hl : l.length ≤ 16384) (hv : validD l = true) (hs : V.length ≤ 2048) (h : readJ l = .ok V) :
    plainB V = true ∧ (∀ x ∈ V, OkO l.length x ∧ x.name.length ≤ l.length) ∧ (textJ 16 V).length ≤ l.length := by
  unfold readJ at h
  cases hx : valJ 16 [] l [] with
  | error e => rw [hx] at h; cases h
  | ok y =>
    obtain ⟨t, out⟩ := y
    rw [hx] at h
    simp only at h
    split at h
    · injection h with h
      subst h
      obtain ⟨c, new, e1, e2, e3, e4, e5, e6⟩ := val_one 16 [] l [] t out hl hv hx
      rw [List.nil_append] at e1
      subst e1
      refine ⟨?_, ?_, by omega⟩
      · unfold plainB mayB
        simp only [Bool.and_eq_true, decide_eq_true_eq, beq_iff_eq, List.all_eq_true, Bool.not_eq_true']
        refine ⟨⟨⟨⟨by simp, hs⟩, ?_⟩, ?_⟩, fun x hx => (e4 x hx).1⟩
        · rw [List.headD_cons, e2]; rfl
        · rw [e3]; rfl
      · intro x hx
        refine ⟨e4 x hx, ?_⟩
        rcases List.mem_cons.1 hx with e | hx
        · rw [e, e2]; exact Nat.zero_le _
        · exact e5 x hx
    · cases h
end Go.Proofs.YtglhanblbojkhaaGreatDoor
namespace Go.Proofs.YtglhanblbojkhaaGreatDoor
open Go.RowKit
theorem rd_one (l : List UInt8) (V : List Cel) (hl : l.length ≤ 3000) (h : rdJ l = .ok V) : plainB V = true ∧ ShortV V ∧ V.length ≤ 2048 ∧ (textJ 16 V).length ≤ 3000 ∧ rdJ (textJ 16 V) = .ok V := by
  have hsm := rdJ_small l
  rw [h] at hsm
  have hs : V.length ≤ 2048 := hsm
  unfold rdJ at h
  split at h
  · rename_i hc
    obtain ⟨c1, c2⟩ := chk_valid l hc
    obtain ⟨p1, p2, p3⟩ := read_one l V c1 c2 hs h
    have hsh : ShortV V := fun c hc => by
      obtain ⟨⟨_, e1, e2, e3⟩, e4⟩ := p2 c hc
      exact ⟨by omega, by omega, e1, e2⟩
    obtain ⟨b1, b2⟩ := back_read V [] [] p1 (fun c hc => (hsh c hc).2.2.1) rfl rfl
    rw [List.nil_append, List.append_nil] at b1 b2
    refine ⟨p1, hsh, hs, by omega, ?_⟩
    unfold rdJ
    have : chkE (textJ 16 V) = 0 := by
      unfold chkE
      rw [if_neg (by omega), b1]; rfl
    rw [if_pos this, b2]
  · cases h
set_option maxRecDepth 100000 in
theorem jsono_long (s : ByteArray) (h : 3000 < s.size) (w : World) (hU : EnvU w) (hE : Env w) (hT : EnvT w) :
    Calls Tryz.prog 5 #[.string s] w fun e w' => e = .returned (.bool true) ∧ Below w.heap.size w w' := by
  have HA : Hid (Calls Tryz.prog 13 #[] w fun x w' => x = .returned (.bool true) ∧ Below w.heap.size w w') := Lib.hid (lalive_any w hU hE hT)
  have t1 : decide ((3000 : Int) < (s.size : Int)) = true := decide_eq_true (by omega)
  clear h hU hE hT
  go_enter Tryz.func5, Tryz.ntmps5
  go_wp2_with fail
  refine HA.out.mono ?_; rintro e w1 ⟨rfl, hb⟩
  have HB1 := Lib.hid hb
  clear hb
  go_wp2_with fail
  go_ret
  exact ⟨rfl, HB1.out⟩
set_option maxRecDepth 100000 in
theorem jsono_err (s : ByteArray) (h : s.size ≤ 3000) (e0 : Int) (hr : rdJ s.data.toList = .error e0) (w : World) (hU : EnvU w) (hE : Env w) (hT : EnvT w) :
    Calls Tryz.prog 5 #[.string s] w fun e w' => e = .returned (.bool true) ∧ Below w.heap.size w w' := by
  have HA : Hid (Calls Tryz.prog 13 #[] w fun x w' => x = .returned (.bool true) ∧ Below w.heap.size w w') := Lib.hid (lalive_any w hU hE hT)
  have HR : Hid (∀ W, Below w.heap.size w W → Calls Tryz.prog 8 #[.string s] W fun x w' => (∃ u, x = .returned (.tuple #[u, .int .i64 e0]) ∧ CelSl u [] w') ∧ Below W.heap.size W w') := Lib.hid fun W hW => by
    have := pread_sl s (by omega) W (hU.below hW) (hE.stays hW)
    rw [hr] at this; exact this
  have t1 : decide ((3000 : Int) < (s.size : Int)) = false := decide_eq_false (by omega)
  have te : (e0 != 0) = true := bne_iff_ne.2 (rdJ_err _ _ hr)
  clear h hU hE hT hr
  go_enter Tryz.func5, Tryz.ntmps5
  go_wp2_with fail
  refine HA.out.mono ?_; rintro e w1 ⟨rfl, hb⟩
  have HB1 := Lib.hid hb
  clear hb
  go_wp2_with fail
  refine (HR.out _ HB1.out).mono ?_; rintro e w2 ⟨⟨u, rfl, hsl⟩, hb⟩
  have HB2 := Lib.hid (HB1.out.trans (hb.mono HB1.out.size))
  obtain ⟨au, cu, rfl⟩ := hsl.form
  clear hb hsl
  go_wp2_with fail
  go_ret
  exact ⟨rfl, HB2.out⟩
set_option maxRecDepth 100000 in
set_option maxHeartbeats 2000000 in
theorem jsono_ok (s : ByteArray) (h : s.size ≤ 3000) (V : List Cel) (hr : rdJ s.data.toList = .ok V) (w : World) (hU : EnvU w) (hE : Env w) (hT : EnvT w) :
    Calls Tryz.prog 5 #[.string s] w fun e w' => e = .returned (.bool true) ∧ Below w.heap.size w w' := by
  obtain ⟨p1, p2, p3, p4, p5⟩ := rd_one s.data.toList V (by rw [bsz]; exact h) hr
  obtain ⟨js, hjs⟩ : ∃ js : ByteArray, (⟨(textJ 16 V).toArray⟩ : ByteArray) = js := ⟨_, rfl⟩
  have hjl : js.data.toList = textJ 16 V := by rw [← hjs]
  have hjz : js.size ≤ 3000 := by rw [← bsz, hjl]; exact p4
  have HA : Hid (Calls Tryz.prog 13 #[] w fun x w' => x = .returned (.bool true) ∧ Below w.heap.size w w') := Lib.hid (lalive_any w hU hE hT)
  have HR : Hid (∀ W, Below w.heap.size w W → Calls Tryz.prog 8 #[.string s] W fun x w' => (∃ u, x = .returned (.tuple #[u, .int .i64 0]) ∧ CelSl u V w') ∧ Below W.heap.size W w') := Lib.hid fun W hW => by
    have := pread_sl s (by omega) W (hU.below hW) (hE.stays hW)
    rw [hr] at this; exact this
  have HR2 : Hid (∀ W, Below w.heap.size w W → Calls Tryz.prog 8 #[.string js] W fun x w' => (∃ u, x = .returned (.tuple #[u, .int .i64 0]) ∧ CelSl u V w') ∧ Below W.heap.size W w') := Lib.hid fun W hW => by
    have := pread_sl js (by omega) W (hU.below hW) (hE.stays hW)
    rw [hjl, p5] at this; exact this
  have HW : Hid (∀ u W, Below w.heap.size w W → CelSl u V W → Calls Tryz.prog 15 #[u] W fun e w' => e = .returned (.tuple #[.string js, .int .i64 0]) ∧ Below W.heap.size W w') := Lib.hid fun u W hW hv => by
    have := jwrite_any V u W hv p2 p3 (hU.below hW) (hT.stays hW)
    rw [show jsonE V = .tuple #[.string js, .int .i64 0] from by unfold jsonE; rw [p1, ← hjs]; rfl] at this
    exact this
  have HP : Hid (∀ u W, Below w.heap.size w W → CelSl u V W → Calls Tryz.prog 16 #[u] W fun e w' => e = .returned (.bool true) ∧ Below W.heap.size W w') := Lib.hid fun u W hW hv => by
    have := cplain_any V u W hv (p2.small (by omega)) (hU.below hW)
    rw [p1] at this; exact this
  have HS : Hid (∀ u v W, CelSl u V W → CelSl v V W → Calls Tryz.prog 12 #[u, v] W fun e w' => e = .returned (.bool true) ∧ Below W.heap.size W w') := Lib.hid fun u v W h1 h2 => by
    have := rsame03_any V V u v (by omega) (by omega) W h1 h2
    rw [(sameV_iff V V).2 rfl] at this
    exact this
  have t1 : decide ((3000 : Int) < (s.size : Int)) = false := decide_eq_false (by omega)
  clear h hU hE hT hr p1 p2 p3 p4 p5 hjs hjl hjz
  go_enter Tryz.func5, Tryz.ntmps5
  go_wp2_with fail
  refine HA.out.mono ?_; rintro e w1 ⟨rfl, hb⟩
  have HB1 := Lib.hid hb
  clear hb
  go_wp2_with fail
  refine (HR.out _ HB1.out).mono ?_; rintro e w2 ⟨⟨u, rfl, hsl⟩, hb⟩
  have HB2 := Lib.hid (HB1.out.trans (hb.mono HB1.out.size))
  have HU2 := Lib.hid hsl
  clear hb hsl
  go_wp2_with fail
  refine (HW.out _ _ HB2.out HU2.out).mono ?_; rintro e w3 ⟨rfl, hb⟩
  have HB3 := Lib.hid (HB2.out.trans (hb.mono HB2.out.size))
  have HU3 := Lib.hid (HU2.out.below hb)
  clear hb
  go_wp2_with fail
  refine (HR2.out _ HB3.out).mono ?_; rintro e w4 ⟨⟨v, rfl, hsl⟩, hb⟩
  have HB4 := Lib.hid (HB3.out.trans (hb.mono HB3.out.size))
  have HU4 := Lib.hid (HU3.out.below hb)
  have HV4 := Lib.hid hsl
  clear hb hsl
  go_wp2_with fail
  refine (HW.out _ _ HB4.out HV4.out).mono ?_; rintro e w5 ⟨rfl, hb⟩
  have HB5 := Lib.hid (HB4.out.trans (hb.mono HB4.out.size))
  have HU5 := Lib.hid (HU4.out.below hb)
  have HV5 := Lib.hid (HV4.out.below hb)
  clear hb
  go_wp2_with fail
  refine (HP.out _ _ HB5.out HU5.out).mono ?_; rintro e w6 ⟨rfl, hb⟩
  have HB6 := Lib.hid (HB5.out.trans (hb.mono HB5.out.size))
  have HU6 := Lib.hid (HU5.out.below hb)
  have HV6 := Lib.hid (HV5.out.below hb)
  clear hb
  go_wp2_with fail
  refine (HS.out _ _ _ HU6.out HV6.out).mono ?_; rintro e w7 ⟨rfl, hb⟩
  have HB7 := Lib.hid (HB6.out.trans (hb.mono HB6.out.size))
  clear hb
  go_wp2_with fail
  go_ret
  exact ⟨rfl, HB7.out⟩
theorem jsono_walk (s : ByteArray) (w : World) (he : EnvU w ∧ Env w ∧ EnvT w) :
    Calls Tryz.prog 5 #[.string s] w fun e w' => e = .returned (.bool true) ∧ Below w.heap.size w w' := by
  obtain ⟨hU, hE, hT⟩ := he
  by_cases hs : 3000 < s.size
  · exact jsono_long s hs w hU hE hT
  · cases hr : rdJ s.data.toList with
    | error e => exact jsono_err s (by omega) e hr w hU hE hT
    | ok V => exact jsono_ok s (by omega) V hr w hU hE hT
end Go.Proofs.YtglhanblbojkhaaGreatDoor
namespace Go.Proofs.YtglhanblbojkhaaGreatDoor
open Go.RowKit Go.WideShapes Go.ChangeShapes
section
variable {H : Type} {enc : TypeId × Value → H} {P : Program}
/-- What 'post_of_same' asks of all addresses is asked here of the old blocks alone. -/
theorem post_below {f : Func} {s : ChangeSpec} {apart fresh handsOn again : Bool} {W W' : World} {args : Array Value} {v : Value} {ds gs : List (DataW H)} {before pa pv : List MemPlace}
    (hW : DataW.Whole enc P f.params.toList s.vars apart W args.toList ds gs before)
    (hres : ∀ (b : Nat) (sp : Nat → Bool) (hd : Bool), DataW.TrodAll enc P W' b sp hd f.resultTypes.toList (v.resultList f.resultTypes.size) (s.fn H (ds ++ gs)).results [])
    (hargs : ∀ sp : Nat → Bool, (∀ p ∈ before, sp p.block = true) → DataW.TrodAll enc P W' 0 sp true f.params.toList args.toList (s.fn H (ds ++ gs)).args pa)
    (hvars : ∀ sp : Nat → Bool, (∀ p ∈ before, sp p.block = true) → DataW.TrodVars enc P W' sp s.vars (s.fn H (ds ++ gs)).vars pv)
    (hps : before = pa ++ pv) (hb : Below W.heap.size W W')
    (hok : ∀ (j : Nat) (t : TypeId) (r : Value), f.resultTypes[j]? = some t → (v.resultList f.resultTypes.size)[j]? = some r → Value.okWide P W' .any 0 t r) :
    s.post enc P f apart fresh handsOn again W args v W' := by
  have old : ∀ p ∈ before, decide (p.block < W.heap.size) = true := fun p hp => decide_eq_true (hW.lt p hp)
  subst hps
  refine ⟨ds, gs, pa ++ pv, [], pa, pv, hW, hres _ _ _, hargs _ old, hvars _ old, World.keptBut_mono (fun p hp => ⟨hp, ?_⟩) (hb.frame (· ∈ pa ++ pv)), fun _ => ?_⟩
  · exact .inr (List.mem_append.1 hp)
  · obtain ⟨_, _, _, _, _, hz, hn⟩ := hW
    refine ⟨hok, _, _, ([] ++ pa) ++ pv, ⟨[] ++ pa, pv, trodAll_append (hargs _ (fun _ _ => rfl)) (hres _ _ _), hvars _ (fun _ _ => rfl), rfl, ?_, ?_⟩, ?_⟩
    · intro b off hp
      have hin : MemPlace.cell b off ∈ pa ++ pv := by simpa using hp
      rw [hb.frozen (of_decide_eq_true (old _ hin))]
      exact hz b off hin
    · intro ha
      simpa using hn ha
    · intro p hp _
      simpa using hp
end
end Go.Proofs.YtglhanblbojkhaaGreatDoor
