/- URLs in one way, plainly: what is in one way may be, and stays. -/
import Derived.Test.YtcocjmbhbddgiaaGreatDoorBj
set_option linter.unusedSimpArgs false
set_option linter.unusedVariables false
namespace Go.Proofs.YtcocjmbhbddgiaaGreatDoor
open Go.RowKit
/-- A made text, byte by byte. -/
inductive Made (p : UInt8 → Bool) : List UInt8 → Prop
  | nil : Made p []
  | one (a : UInt8) (l : List UInt8) : p a = true → a ≠ 37 → Made p l → Made p (a :: l)
  | esc (b c : UInt8) (l : List UInt8) : isHex b = true → isHex c = true → Made p l → Made p (37 :: b :: c :: l)
theorem made_of (p : UInt8 → Bool) (hp : p 37 = false) : ∀ l, madeB p l = true → Made p l
  | [], _ => .nil
  | [a], h => .one a [] h (by rintro rfl; rw [show madeB p [37] = p 37 from rfl, hp] at h; cases h) .nil
  | [a, b], h => by
    rw [show madeB p [a, b] = (p a && p b) from rfl, Bool.and_eq_true] at h
    refine .one a [b] h.1 (by rintro rfl; rw [hp] at h; cases h.1) (.one b [] h.2 (by rintro rfl; rw [hp] at h; cases h.2) .nil)
  | a :: b :: c :: r, h => by
    rw [madeB] at h
    cases he : (a == 37 && isHex b && isHex c) with
    | true =>
      rw [he] at h
      simp only [if_true] at h
      simp only [Bool.and_eq_true, beq_iff_eq] at he
      rw [he.1.1]
      exact .esc b c r he.1.2 he.2 (made_of p hp r h)
    | false =>
      rw [he] at h
      simp only [Bool.false_eq_true, if_false, Bool.and_eq_true] at h
      exact .one a _ h.1 (by rintro rfl; rw [hp] at h; cases h.1) (made_of p hp (b :: c :: r) h.2)
theorem esc_ne (a : UInt8) (l : List UInt8) (h : a ≠ 37) : esc (a :: l) = false := by
  match l with
  | [] => rfl
  | [b] => rfl
  | b :: c :: r =>
    show (a == 37 && isHex b && isHex c) = false
    rw [show (a == 37) = false from beq_eq_false_iff_ne.2 h]; rfl
theorem of_made {p : UInt8 → Bool} {l : List UInt8} (h : Made p l) : madeB p l = true := by
  induction h with
  | nil => rfl
  | one a l h1 h2 _ ih => rw [madeB_cons, esc_ne a l h2, h1]; exact ih
  | esc b c l h1 h2 _ ih => rw [madeB, h1, h2]; exact ih
theorem up_hex (b : UInt8) (h : isHex b = true) : isHex (upB b) = true ∧ upB (upB b) = upB b ∧ hexI (upB b).toNat = hexI b.toNat := by
  have g := byte_if (f := fun b => !isHex b || (isHex (upB b) && (upB (upB b) == upB b) && decide (hexI (upB b).toNat = hexI b.toNat))) (by decide +kernel) b
  simp only [h, Bool.not_true, Bool.false_or, Bool.and_eq_true, beq_iff_eq, decide_eq_true_eq] at g
  exact ⟨g.1.1, g.1.2, g.2⟩
theorem free_low (c : UInt8) : isFree c = true → isFree (lowB c) = true := by
  have g := byte_if (f := fun c => !isFree c || isFree (lowB c)) (by decide +kernel) c
  intro h
  simpa [h] using g
theorem free_not (c : UInt8) (h : isFree c = true) : c ≠ 37 := by
  rintro rfl
  exact absurd h (by decide +kernel)
theorem low_low (c : UInt8) : lowB (lowB c) = lowB c := by
  have g := byte_if (f := fun c => lowB (lowB c) == lowB c) (by decide +kernel) c
  simpa using g
theorem low_37 (c : UInt8) (h : c ≠ 37) : lowB c ≠ 37 := by
  have g := byte_if (f := fun c => (c == 37) || !(lowB c == 37)) (by decide +kernel) c
  intro e
  simp [h, e] at g
/-- What is in one way may be, and stays. -/
theorem plain_made (p : UInt8 → Bool) (tf : UInt8 → UInt8) (h1 : ∀ a, p a = true → p (tf a) = true) (h2 : ∀ a, a ≠ 37 → tf a ≠ 37) (h3 : ∀ n, isFree n = true → p n = true) (h4 : ∀ a, tf (tf a) = tf a)
    {l : List UInt8} (h : Made p l) : Made p (plainL tf l) ∧ plainL tf (plainL tf l) = plainL tf l := by
  induction h with
  | nil => exact ⟨.nil, rfl⟩
  | one a l k1 k2 _ ih =>
    rw [plain_cons tf a l (esc_ne a l k2)]
    refine ⟨.one _ _ (h1 a k1) (h2 a k2) ih.1, ?_⟩
    rw [plain_cons tf _ _ (esc_ne _ _ (h2 a k2)), h4, ih.2]
  | esc b c l k1 k2 _ ih =>
    rw [plain_esc tf b c l k1 k2]
    obtain ⟨u1, u2, u3⟩ := up_hex b k1
    obtain ⟨v1, v2, v3⟩ := up_hex c k2
    cases hf : isFree (escByte b c) with
    | true =>
      have e : outE tf b c = [tf (escByte b c)] := by unfold outE; rw [if_pos hf]
      rw [e]
      have hn := h2 _ (free_not _ hf)
      refine ⟨.one _ _ (h1 _ (h3 _ hf)) hn ih.1, ?_⟩
      rw [List.singleton_append, plain_cons tf _ _ (esc_ne _ _ hn), h4, ih.2]
    | false =>
      have e : outE tf b c = [37, upB b, upB c] := by unfold outE; rw [if_neg (by rw [hf]; decide)]
      have eb : escByte (upB b) (upB c) = escByte b c := by unfold escByte; rw [u3, v3]
      have e2 : outE tf (upB b) (upB c) = [37, upB b, upB c] := by unfold outE; rw [eb, if_neg (by rw [hf]; decide), u2, v2]
      rw [e]
      refine ⟨.esc _ _ _ u1 v1 ih.1, ?_⟩
      show plainL tf (37 :: upB b :: upB c :: plainL tf l) = 37 :: upB b :: upB c :: plainL tf l
      rw [plain_esc tf _ _ _ u1 v1, e2, ih.2]; rfl
theorem plain_map (tf : UInt8 → UInt8) : ∀ l : List UInt8, l.contains 37 = false → plainL tf l = l.map tf
  | [], _ => rfl
  | a :: l, h => by
    rw [List.contains_cons, Bool.or_eq_false_iff] at h
    have ha : a ≠ 37 := by rintro rfl; simp at h
    rw [plain_cons tf a l (esc_ne a l ha), plain_map tf l h.2]; rfl
/-- Great letters small, and the other way round. -/
def turnB (c : UInt8) : UInt8 := if 97 ≤ c.toNat ∧ c.toNat ≤ 122 then UInt8.ofNat (c.toNat - 32) else if 65 ≤ c.toNat ∧ c.toNat ≤ 90 then UInt8.ofNat (c.toNat + 32) else c
theorem okS_of (tf : UInt8 → UInt8) (hL : ∀ c, isLet c = true → isLet (tf c) = true) (hO : ∀ c, okS c = true → okS (tf c) = true) (l : List UInt8) (h : schemeB l = true) : schemeB (l.map tf) = true := by
  cases l with
  | nil => cases h
  | cons c r =>
    simp only [schemeB, Bool.and_eq_true, List.map_cons, List.all_eq_true] at *
    refine ⟨hL c h.1, ?_⟩
    intro x hx
    obtain ⟨y, hy, rfl⟩ := List.mem_map.1 hx
    exact hO y (h.2 y hy)
theorem low_let (c : UInt8) : (isLet c = true → isLet (lowB c) = true) ∧ (okS c = true → okS (lowB c) = true) := by
  have g := byte_if (f := fun c => (!isLet c || isLet (lowB c)) && (!okS c || okS (lowB c))) (by decide +kernel) c
  simp only [Bool.and_eq_true] at g
  exact ⟨fun h => by simpa [h] using g.1, fun h => by simpa [h] using g.2⟩
theorem turn_let (c : UInt8) : (isLet c = true → isLet (turnB c) = true) ∧ (okS c = true → okS (turnB c) = true) ∧ lowB (turnB c) = lowB c := by
  have g := byte_if (f := fun c => (!isLet c || isLet (turnB c)) && (!okS c || okS (turnB c)) && (lowB (turnB c) == lowB c)) (by decide +kernel) c
  simp only [Bool.and_eq_true, beq_iff_eq] at g
  exact ⟨fun h => by simpa [h] using g.1.1, fun h => by simpa [h] using g.1.2, g.2⟩
theorem scheme_no37 (l : List UInt8) (h : schemeB l = true) : l.contains 37 = false := by
  rw [scheme_parts] at h
  simp only [Bool.and_eq_true, Bool.not_eq_true'] at h
  exact h.1.2
theorem tell_len (sc us ho po pa qu : List UInt8) (hu hq : Bool) : (tellL sc us ho po pa qu hu hq).length = sc.length + 3 + (if hu then us.length + 1 else 0) + ho.length + (if po.isEmpty then 0 else po.length + 1) + pa.length + (if hq then qu.length + 1 else 0) := by
  unfold tellL
  cases hu <;> cases hq <;> cases po <;> simp <;> omega
theorem tell_le {sc us ho po pa qu sc' us' ho' pa' qu' : List UInt8} (hu hq : Bool) (h1 : sc'.length ≤ sc.length) (h2 : us'.length ≤ us.length) (h3 : ho'.length ≤ ho.length) (h5 : pa'.length ≤ pa.length) (h6 : qu'.length ≤ qu.length) :
    (tellL sc' us' ho' po pa' qu' hu hq).length ≤ (tellL sc us ho po pa qu hu hq).length := by
  rw [tell_len, tell_len]
  cases hu <;> cases hq <;> simp <;> omega
theorem may_free (ms : List UInt8) (n : UInt8) (h : isFree n = true) : mayB ms n = true := by unfold mayB; rw [h]; rfl
theorem may_low (n : UInt8) (h : mayB [] n = true) : mayB [] (lowB n) = true := by
  have g := byte_if (f := fun c => !mayB [] c || mayB [] (lowB c)) (by decide +kernel) n
  simpa [h] using g
theorem may_plain {sc us ho po pa qu : List UInt8} {hu hq : Bool} (h : mayL sc us ho po pa qu hu hq = true) :
    mayL (plainL lowB sc) (plainL id us) (plainL lowB ho) po (plainL id pa) (plainL id qu) hu hq = true ∧
    plainL lowB (plainL lowB sc) = plainL lowB sc ∧ plainL id (plainL id us) = plainL id us ∧ plainL lowB (plainL lowB ho) = plainL lowB ho ∧ plainL id (plainL id pa) = plainL id pa ∧ plainL id (plainL id qu) = plainL id qu := by
  unfold mayL oneL twoL at h
  simp only [Bool.and_eq_true, decide_eq_true_eq] at h
  obtain ⟨⟨⟨⟨⟨⟨⟨h1, h2⟩, h3⟩, h4⟩, h5⟩, h6⟩, ⟨t1, t2⟩, t3⟩, hlen⟩ := h
  have n1 := scheme_no37 sc h1
  have e1 := plain_map lowB sc n1
  have s1 := okS_of lowB (fun c => (low_let c).1) (fun c => (low_let c).2) sc h1
  obtain ⟨m2, i2⟩ := plain_made (mayB [58]) id (fun _ h => h) (fun _ h => h) (may_free _) (fun _ => rfl) (made_of _ (by decide +kernel) us h2)
  obtain ⟨m3, i3⟩ := plain_made (mayB []) lowB may_low low_37 (may_free _) low_low (made_of _ (by decide +kernel) ho h3)
  obtain ⟨m5, i5⟩ := plain_made (mayB [58, 64, 47]) id (fun _ h => h) (fun _ h => h) (may_free _) (fun _ => rfl) (made_of _ (by decide +kernel) pa h5)
  obtain ⟨m6, i6⟩ := plain_made (mayB [58, 64, 47, 63]) id (fun _ h => h) (fun _ h => h) (may_free _) (fun _ => rfl) (made_of _ (by decide +kernel) qu h6)
  have i1 : plainL lowB (plainL lowB sc) = plainL lowB sc := by
    have n2 := scheme_no37 _ s1
    rw [e1, plain_map lowB _ n2, List.map_map]
    apply List.map_congr_left
    intro c _
    exact low_low c
  refine ⟨?_, i1, i2, i3, i5, i6⟩
  unfold mayL oneL twoL
  have l1 := plain_le lowB sc
  have l2 := plain_le id us
  have l3 := plain_le lowB ho
  have l5 := plain_le id pa
  have l6 := plain_le id qu
  have hl := tell_le (po := po) hu hq l1 l2 l3 l5 l6
  rw [e1, s1, of_made m2, of_made m3, h4, of_made m5, of_made m6, decide_eq_true (by rw [e1] at hl; omega)]
  simp only [Bool.true_and, Bool.and_true, Bool.and_eq_true]
  refine ⟨⟨?_, ?_⟩, ?_⟩
  · cases pa with
    | nil => rfl
    | cons a r =>
      simp only [List.isEmpty_cons, Bool.false_or, List.head?_cons, beq_iff_eq, Option.some.injEq] at t1
      rw [t1, plain_cons id 47 r (esc_ne 47 r (by decide))]; rfl
  · cases hu with
    | true => rfl
    | false =>
      cases us with
      | nil => rfl
      | cons a r => cases t2
  · cases hq with
    | true => rfl
    | false =>
      cases qu with
      | nil => rfl
      | cons a r => cases t3
theorem may_turn {sc us ho po pa qu : List UInt8} {hu hq : Bool} (h : mayL sc us ho po pa qu hu hq = true) :
    mayL (sc.map turnB) us ho po pa qu hu hq = true ∧ plainL lowB (sc.map turnB) = plainL lowB sc := by
  have h' := h
  unfold mayL oneL at h
  simp only [Bool.and_eq_true, decide_eq_true_eq] at h
  obtain ⟨⟨⟨⟨⟨⟨⟨h1, h2⟩, h3⟩, h4⟩, h5⟩, h6⟩, ht⟩, hlen⟩ := h
  have s1 := okS_of turnB (fun c => (turn_let c).1) (fun c => (turn_let c).2.1) sc h1
  constructor
  · unfold mayL oneL
    rw [tell_len] at *
    rw [s1, h2, h3, h4, h5, h6, ht, List.length_map, decide_eq_true hlen]; rfl
  · rw [plain_map lowB sc (scheme_no37 sc h1), plain_map lowB _ (scheme_no37 _ s1), List.map_map]
    apply List.map_congr_left
    intro c _
    exact (turn_let c).2.2
theorem bs_inj {a b : List UInt8} (h : (Value.string (bs a)) = .string (bs b)) : a = b := by
  injection h with h
  have := congrArg (fun x : ByteArray => x.data.toList) h
  exact this
/-- The parts that parts' text tells. -/
theorem told_parts {sc us ho po pa qu : List UInt8} {hu hq : Bool} (h : mayL sc us ho po pa qu hu hq = true) :
    parseOk (tellL sc us ho po pa qu hu hq) = true ∧ scP (tellL sc us ho po pa qu hu hq) = sc ∧ usP (tellL sc us ho po pa qu hu hq) = us ∧ hoP (tellL sc us ho po pa qu hu hq) = ho ∧ poP (tellL sc us ho po pa qu hu hq) = po ∧ paP (tellL sc us ho po pa qu hu hq) = pa ∧ quP (tellL sc us ho po pa qu hu hq) = qu ∧ huP (tellL sc us ho po pa qu hu hq) = hu ∧ hqP (tellL sc us ho po pa qu hu hq) = hq := by
  have e := tell_parse h
  generalize tellL sc us ho po pa qu hu hq = t at *
  unfold parseV at e
  cases hok : parseOk t with
  | false =>
    rw [hok] at e
    simp only [Bool.false_eq_true, if_false] at e
    injection e with e
    simp [zeroA, addrV] at e
  | true =>
    rw [hok] at e
    simp only [if_true] at e
    injection e with e
    unfold addrV at e
    simp only [Array.mk.injEq, List.cons.injEq, Value.agg.injEq, Value.bool.injEq, and_true] at e
    obtain ⟨e1, e2, e3, e4, e5, e6, e7, e8⟩ := e
    exact ⟨rfl, bs_inj e1, bs_inj e2, bs_inj e3, bs_inj e4, bs_inj e5, bs_inj e6, e7, e8⟩
end Go.Proofs.YtcocjmbhbddgiaaGreatDoor
