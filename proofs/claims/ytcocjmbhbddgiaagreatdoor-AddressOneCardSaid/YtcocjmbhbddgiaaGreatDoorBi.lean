/- URLs, plainly: what the text of parts tells. -/
import Derived.Test.YtcocjmbhbddgiaaGreatDoorBf
set_option linter.unusedSimpArgs false
set_option linter.unusedVariables false
namespace Go.Proofs.YtcocjmbhbddgiaaGreatDoor
open Go.RowKit
theorem made_mem (p : UInt8 → Bool) : ∀ l : List UInt8, madeB p l = true → ∀ c ∈ l, (p c || c == 37 || isHex c) = true
  | [], _, c, hc => by cases hc
  | [a], h, c, hc => by
    rw [List.mem_singleton] at hc
    rw [hc, show p a = true from h]; rfl
  | [a, b], h, c, hc => by
    simp only [madeB, Bool.and_eq_true] at h
    rcases List.mem_cons.1 hc with q | q
    · rw [q, h.1]; rfl
    · rw [List.mem_singleton] at q; rw [q, h.2]; rfl
  | a :: b :: d :: r, h, c, hc => by
    rw [madeB] at h
    cases he : (a == 37 && isHex b && isHex d) with
    | true =>
      rw [he] at h
      simp only [if_true] at h
      simp only [Bool.and_eq_true] at he
      rcases List.mem_cons.1 hc with q | q
      · rw [q, he.1.1]; simp
      · rcases List.mem_cons.1 q with q | q
        · rw [q, he.1.2]; simp
        · rcases List.mem_cons.1 q with q | q
          · rw [q, he.2]; simp
          · exact made_mem p r h c q
    | false =>
      rw [he] at h
      simp only [Bool.false_eq_true, if_false, Bool.and_eq_true] at h
      rcases List.mem_cons.1 hc with q | q
      · rw [q, h.1]; rfl
      · exact made_mem p (b :: d :: r) h.2 c q
/-- A byte that no part of a kind holds. -/
theorem not_in (p : UInt8 → Bool) (x : UInt8) (hx : (p x || x == 37 || isHex x) = false) (l : List UInt8) (h : madeB p l = true) : l.contains x = false := by
  cases q : l.contains x
  · rfl
  · have := made_mem p l h x (List.contains_iff_mem.1 q)
    rw [hx] at this; cases this
theorem ahead_app (c : UInt8) : ∀ (l r : List UInt8), l.contains c = false → ahead c (l ++ c :: r) = l ∧ behind c (l ++ c :: r) = r ∧ (l ++ c :: r).contains c = true
  | [], r, _ => by simp [ahead, behind]
  | a :: l, r, h => by
    have h1 : (a == c) = false := by
      cases q : (a == c)
      · rfl
      · rw [List.contains_cons, show (c == a) = true by rw [beq_iff_eq] at q ⊢; exact q.symm] at h; cases h
    have h2 : l.contains c = false := by
      cases q : l.contains c
      · rfl
      · rw [List.contains_cons, q, Bool.or_true] at h; cases h
    obtain ⟨i1, i2, i3⟩ := ahead_app c l r h2
    have hne : (a != c) = true := by rw [bne, h1]; rfl
    refine ⟨?_, ?_, ?_⟩
    · simp only [ahead, List.cons_append, List.takeWhile_cons, hne, if_true] at *
      rw [i1]
    · simp only [behind, List.cons_append, List.dropWhile_cons, hne, if_true] at *
      exact i2
    · rw [List.cons_append, List.contains_cons, i3, Bool.or_true]
theorem noAny_app (l r : List UInt8) (hl : ∀ c ∈ l, ([47, 63] : List UInt8).contains c = false) : Lib.NoAny (l ++ r) [47, 63] l.length := by
  intro j b hj hb
  rw [List.getElem?_append_left hj] at hb
  exact hl b (List.mem_of_getElem? hb)
theorem split_app (l r : List UInt8) (hl : ∀ c ∈ l, ([47, 63] : List UInt8).contains c = false) (hr : r = [] ∨ ∃ x r', r = x :: r' ∧ ([47, 63] : List UInt8).contains x = true) : headL (l ++ r) = l ∧ restL (l ++ r) = r := by
  have hn := noAny_app l r hl
  rcases hr with rfl | ⟨x, r', rfl, hx⟩
  · have : ixL (l ++ []) = -1 := by
      unfold ixL
      refine Lib.indexAny_none ?_
      rw [List.append_nil] at hn ⊢
      exact hn
    unfold headL restL
    rw [this]
    exact ⟨List.append_nil l, rfl⟩
  · have : ixL (l ++ x :: r') = l.length := by
      unfold ixL
      exact Lib.indexAny_hit hn (by rw [List.getElem?_append_right (Nat.le_refl _), Nat.sub_self]; rfl) hx
    unfold headL restL
    rw [this, if_pos (by omega), if_pos (by omega), Int.toNat_natCast]
    exact ⟨List.take_left' rfl, List.drop_left' rfl⟩
/-- The front of a text: user, host, port. -/
def authL (us ho po : List UInt8) (hu : Bool) : List UInt8 := (if hu then us ++ [64] else []) ++ ho ++ (if po.isEmpty then [] else 58 :: po)
theorem tell_auth (sc us ho po pa qu : List UInt8) (hu hq : Bool) : tellL sc us ho po pa qu hu hq = sc ++ 58 :: 47 :: 47 :: (authL us ho po hu ++ (pa ++ if hq then 63 :: qu else [])) := by
  unfold tellL authL
  simp [List.append_assoc]
theorem not_in_dig (x : UInt8) (hx : isDig x = false) (l : List UInt8) (h : l.all isDig = true) : l.contains x = false := by
  cases q : l.contains x
  · rfl
  · have := List.all_eq_true.1 h x (List.contains_iff_mem.1 q)
    rw [hx] at this; cases this
theorem auth_parts (us ho po : List UInt8) (hu : Bool) (h2 : madeB (mayB [58]) us = true) (h3 : madeB (mayB []) ho = true) (h4 : po.all isDig = true) (he : (hu || us.isEmpty) = true) :
    usL (authL us ho po hu) = us ∧ (authL us ho po hu).contains 64 = hu ∧ ahead 58 (hd2L (authL us ho po hu)) = ho ∧ behind 58 (hd2L (authL us ho po hu)) = po := by
  have u64 := not_in _ 64 (by decide) us h2
  have o64 := not_in _ 64 (by decide) ho h3
  have o58 := not_in _ 58 (by decide) ho h3
  have p64 := not_in_dig 64 (by decide) po h4
  have hend : ahead 58 (ho ++ (if po.isEmpty then [] else 58 :: po)) = ho ∧ behind 58 (ho ++ (if po.isEmpty then [] else 58 :: po)) = po := by
    cases po with
    | nil =>
      have := behind_nil_of 58 ho o58
      simpa using this
    | cons a r =>
      have := ahead_app 58 ho (a :: r) o58
      exact ⟨this.1, this.2.1⟩
  cases hu with
  | true =>
    have e : authL us ho po true = us ++ 64 :: (ho ++ (if po.isEmpty then [] else 58 :: po)) := by unfold authL; simp
    obtain ⟨a1, a2, a3⟩ := ahead_app 64 us (ho ++ (if po.isEmpty then [] else 58 :: po)) u64
    rw [e]
    unfold usL hd2L
    rw [a3, if_pos rfl, if_pos rfl, a1, a2]
    exact ⟨rfl, rfl, hend.1, hend.2⟩
  | false =>
    have hus : us = [] := by cases us with
      | nil => rfl
      | cons a r => cases he
    have e : authL us ho po false = ho ++ (if po.isEmpty then [] else 58 :: po) := by unfold authL; simp
    have c64 : (ho ++ (if po.isEmpty then [] else 58 :: po)).contains 64 = false := by
      cases q : (ho ++ (if po.isEmpty then [] else 58 :: po)).contains 64
      · rfl
      · rw [List.contains_iff_mem, List.mem_append] at q
        rcases q with q | q
        · rw [← List.contains_iff_mem, o64] at q; cases q
        · split at q
          · cases q
          · rcases List.mem_cons.1 q with q | q
            · exact absurd q (by decide)
            · rw [← List.contains_iff_mem, p64] at q; cases q
    rw [e]
    unfold usL hd2L
    rw [c64]
    exact ⟨hus.symm, rfl, hend.1, hend.2⟩
theorem tell_parse {sc us ho po pa qu : List UInt8} {hu hq : Bool} (h : mayL sc us ho po pa qu hu hq = true) :
    parseV (tellL sc us ho po pa qu hu hq) = .tuple #[addrV sc us ho po pa qu hu hq, .int .i64 0] := by
  have hm := h
  unfold mayL oneL twoL at h
  simp only [Bool.and_eq_true] at h
  obtain ⟨⟨⟨⟨⟨⟨⟨h1, h2⟩, h3⟩, h4⟩, h5⟩, h6⟩, ⟨t1, t2⟩, t3⟩, hlen⟩ := h
  have s58 : sc.contains 58 = false := by
    rw [scheme_parts] at h1
    simp only [Bool.and_eq_true] at h1
    exact not_in _ 58 (by decide) sc h1.2
  obtain ⟨p1, p2, p3, p4⟩ := auth_parts us ho po hu h2 h3 h4 t2
  have e := tell_auth sc us ho po pa qu hu hq
  obtain ⟨a1, a2, a3⟩ := ahead_app 58 sc (47 :: 47 :: (authL us ho po hu ++ (pa ++ if hq then 63 :: qu else []))) s58
  rw [← e] at a1 a2 a3
  have hauth : ∀ c ∈ authL us ho po hu, ([47, 63] : List UInt8).contains c = false := by
    intro c hc
    cases q : ([47, 63] : List UInt8).contains c
    · rfl
    · exfalso
      rw [List.contains_iff_mem] at q
      unfold authL at hc
      simp only [List.mem_append] at hc
      have key : ∀ l : List UInt8, l.contains 47 = false → l.contains 63 = false → c ∈ l → False := by
        intro l k1 k2 hl
        rcases List.mem_cons.1 q with q | q
        · rw [q, ← List.contains_iff_mem, k1] at hl; cases hl
        · rw [List.mem_singleton] at q
          rw [q, ← List.contains_iff_mem, k2] at hl; cases hl
      rcases hc with (hc | hc) | hc
      · split at hc
        · rcases List.mem_append.1 hc with hc | hc
          · exact key us (not_in _ 47 (by decide) us h2) (not_in _ 63 (by decide) us h2) hc
          · exact key [64] (by decide) (by decide) hc
        · cases hc
      · exact key ho (not_in _ 47 (by decide) ho h3) (not_in _ 63 (by decide) ho h3) hc
      · split at hc
        · cases hc
        · rcases List.mem_cons.1 hc with hc | hc
          · exact key [58] (by decide) (by decide) (by rw [hc]; exact List.mem_singleton.2 rfl)
          · exact key po (not_in_dig 47 (by decide) po h4) (not_in_dig 63 (by decide) po h4) hc
  have hrest : (pa ++ if hq then 63 :: qu else []) = [] ∨ ∃ x r', (pa ++ if hq then 63 :: qu else []) = x :: r' ∧ ([47, 63] : List UInt8).contains x = true := by
    cases pa with
    | nil =>
      cases hq with
      | true => right; exact ⟨63, qu, rfl, by decide⟩
      | false => left; rfl
    | cons a r =>
      right
      refine ⟨a, r ++ (if hq then 63 :: qu else []), rfl, ?_⟩
      simp only [List.isEmpty_cons, Bool.false_or, List.head?_cons, beq_iff_eq, Option.some.injEq] at t1
      rw [t1]; decide
  obtain ⟨k1, k2⟩ := split_app _ _ hauth hrest
  have r2 : r2L (tellL sc us ho po pa qu hu hq) = authL us ho po hu ++ (pa ++ if hq then 63 :: qu else []) := by unfold r2L; rw [a2]; rfl
  have pa63 := not_in _ 63 (by decide) pa h5
  have hq3 : ahead 63 (pa ++ if hq then 63 :: qu else []) = pa ∧ behind 63 (pa ++ if hq then 63 :: qu else []) = qu ∧ (pa ++ if hq then 63 :: qu else []).contains 63 = hq := by
    cases hq with
    | true => exact ahead_app 63 pa qu pa63
    | false =>
      have hqu : qu = [] := by cases qu with
        | nil => rfl
        | cons a r => cases t3
      have := behind_nil_of 63 pa pa63
      rw [hqu]
      simp only [Bool.false_eq_true, if_false, List.append_nil]
      exact ⟨this.1, this.2, pa63⟩
  have e1 : scP (tellL sc us ho po pa qu hu hq) = sc := a1
  have e2 : hP (tellL sc us ho po pa qu hu hq) = authL us ho po hu := by unfold hP; rw [r2]; exact k1
  have e3 : rtP (tellL sc us ho po pa qu hu hq) = pa ++ if hq then 63 :: qu else [] := by unfold rtP; rw [r2]; exact k2
  have hok : okL (tellL sc us ho po pa qu hu hq) = true := by
    unfold okL
    rw [a3, a2]
    simp only [Bool.and_eq_true, decide_eq_true_eq] at *
    exact ⟨⟨trivial, by simp [Lib.hasPrefix, List.isPrefixOf]⟩, hlen⟩
  have f1 : usP (tellL sc us ho po pa qu hu hq) = us := by unfold usP; rw [e2]; exact p1
  have f2 : huP (tellL sc us ho po pa qu hu hq) = hu := by unfold huP; rw [e2]; exact p2
  have f3 : hoP (tellL sc us ho po pa qu hu hq) = ho := by unfold hoP; rw [e2]; exact p3
  have f4 : poP (tellL sc us ho po pa qu hu hq) = po := by unfold poP; rw [e2]; exact p4
  have f5 : paP (tellL sc us ho po pa qu hu hq) = pa := by unfold paP; rw [e3]; exact hq3.1
  have f6 : quP (tellL sc us ho po pa qu hu hq) = qu := by unfold quP; rw [e3]; exact hq3.2.1
  have f7 : hqP (tellL sc us ho po pa qu hu hq) = hq := by unfold hqP; rw [e3]; exact hq3.2.2
  unfold parseV parseOk mayP
  rw [hok, e1, f1, f2, f3, f4, f5, f6, f7, hm]
  rfl
end Go.Proofs.YtcocjmbhbddgiaaGreatDoor
