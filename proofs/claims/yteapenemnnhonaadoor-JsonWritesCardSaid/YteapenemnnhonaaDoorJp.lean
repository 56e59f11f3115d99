/- A value's JSON, plainly. No program in sight. -/
import Derived.Test.YteapenemnnhonaaDoorKs
set_option linter.unusedSimpArgs false
set_option linter.unusedVariables false
namespace Go.Proofs.YteapenemnnhonaaDoor
open Go.Lib
def litJ (c : Cel) : List UInt8 := if c.kind = 0 then [110, 117, 108, 108] else if c.kind = 1 then (if c.num = 1 then [116, 114, 117, 101] else [102, 97, 108, 115, 101]) else if c.kind = 2 then Lib.itoa c.num else quoteL c.text
def preJ (isO first : Bool) (l : List Cel) : List UInt8 := (if first then [] else [44]) ++ (if isO then quoteL (l.headD ⟨0, [], [], 0, 0⟩).name ++ [58] else [])
/-- The JSON of so many items, members. -/
def kidsJ (val : List Cel → Option Nat) (txt : List Cel → List UInt8) (isO : Bool) : Nat → Bool → List Cel → List UInt8
  | 0, _, _ => []
  | n + 1, first, l => preJ isO first l ++ (txt l ++ kidsJ val txt isO n false (l.drop ((val l).getD 0)))
def headJ (kids : Cel → List Cel → List UInt8) : List Cel → List UInt8
  | [] => []
  | c :: r => if nestC c then (if c.kind == 6 then [91] else [123]) ++ (kids c r ++ (if c.kind == 6 then [93] else [125])) else litJ c
/-- The JSON of the value that begins a list. -/
def textJ : Nat → List Cel → List UInt8
  | 0 => headJ fun _ _ => []
  | d + 1 => headJ fun c r => kidsJ (valN d) (textJ d) (!(c.kind == 6)) c.many.toNat true r
theorem headJ_cons (kids : Cel → List Cel → List UInt8) (c : Cel) (r : List Cel) : headJ kids (c :: r) = if nestC c then (if c.kind == 6 then [91] else [123]) ++ (kids c r ++ (if c.kind == 6 then [93] else [125])) else litJ c := rfl
theorem textJ_zero (l : List Cel) : textJ 0 l = headJ (fun _ _ => []) l := rfl
theorem textJ_more (d : Nat) (l : List Cel) : textJ (d + 1) l = headJ (fun c r => kidsJ (valN d) (textJ d) (!(c.kind == 6)) c.many.toNat true r) l := rfl
theorem kidsJ_mono (f g : List Cel → Option Nat) (tf tg : List Cel → List UInt8) (h : ∀ l k, f l = some k → g l = some k ∧ tg l = tf l) (isL isO : Bool) : ∀ (n : Nat) (first : Bool) (nm : List (List UInt8)) (l : List Cel) (k : Nat), kidsN f isL n nm l = some k → kidsJ g tg isO n first l = kidsJ f tf isO n first l
  | 0, first, nm, l, k, _ => rfl
  | n + 1, first, nm, [], k, hk => by cases hk
  | n + 1, first, nm, c :: r, k, hk => by
    rw [kidsN] at hk
    split at hk
    · split at hk
      · cases hk
      · rename_i k1 hk1
        obtain ⟨h1, h2⟩ := h _ _ hk1
        rw [Option.map_eq_some_iff] at hk
        obtain ⟨k2, hk2, _⟩ := hk
        have ih := kidsJ_mono f g tf tg h isL isO n false _ _ k2 hk2
        rw [kidsJ, kidsJ, h1, hk1, h2]
        rw [Option.getD_some, ih]
    · cases hk
theorem textJ_succ : ∀ (d : Nat) (l : List Cel) (k : Nat), valN d l = some k → textJ (d + 1) l = textJ d l
  | 0, [], k, h => by cases h
  | 0, c :: r, k, h => by
    rw [valN_zero, headN_cons] at h
    rw [textJ_more, textJ_zero, headJ_cons, headJ_cons]
    cases h1 : oneC c with
    | false => rw [h1] at h; cases h
    | true =>
      cases h2 : nestC c with
      | true => rw [h1, h2] at h; cases h
      | false => rfl
  | d + 1, [], k, h => by cases h
  | d + 1, c :: r, k, h => by
    rw [valN_more, headN_cons] at h
    rw [textJ_more (d + 1), textJ_more d, headJ_cons, headJ_cons]
    cases h1 : oneC c with
    | false => rw [h1] at h; cases h
    | true =>
      cases h2 : nestC c with
      | false => rfl
      | true =>
        rw [h1, h2, if_pos rfl, if_pos rfl, Option.map_eq_some_iff] at h
        obtain ⟨k2, hk2, _⟩ := h
        rw [if_pos rfl, if_pos rfl]
        rw [kidsJ_mono (valN d) (valN (d + 1)) (textJ d) (textJ (d + 1)) (fun l k hl => ⟨valN_succ d l k hl, textJ_succ d l k hl⟩) _ _ _ true _ _ k2 hk2]
theorem textJ_mono {d e : Nat} (h : d ≤ e) (l : List Cel) (k : Nat) (hv : valN d l = some k) : textJ e l = textJ d l := by
  induction h with
  | refl => rfl
  | step h' ih => rw [textJ_succ _ _ _ (valN_mono h' _ _ hv), ih]
theorem quoteC_len' (c : UInt8) : (quoteC c).length ≤ 6 := by
  unfold quoteC
  repeat' split
  all_goals simp
theorem quoteL_len' (l : List UInt8) : (quoteL l).length ≤ 6 * l.length + 2 := by
  unfold quoteL
  have : (l.flatMap quoteC).length ≤ 6 * l.length := by
    induction l with
    | nil => simp
    | cons c r ih =>
      rw [List.flatMap_cons, List.length_append, List.length_cons]
      have := quoteC_len' c
      omega
  simp only [List.length_append, List.length_cons, List.length_nil]
  omega
/-- Cells whose names and texts are short. -/
def ShortV (V : List Cel) : Prop := ∀ c ∈ V, c.name.length ≤ 300 ∧ c.text.length ≤ 3000 ∧ R c.num ∧ R c.many
theorem preJ_len (isO first : Bool) (l : List Cel) (h : ShortV l) : (preJ isO first l).length ≤ 1804 := by
  have hn : (l.headD ⟨0, [], [], 0, 0⟩).name.length ≤ 300 := by
    cases l with
    | nil => simp
    | cons c r => exact (h c (List.mem_cons_self ..)).1
  have hq := quoteL_len' (l.headD ⟨0, [], [], 0, 0⟩).name
  unfold preJ
  generalize (l.headD ⟨0, [], [], 0, 0⟩).name = nm at *
  cases isO <;> cases first <;> simp <;> omega
theorem litJ_len (c : Cel) (h : c.text.length ≤ 3000) (hr : R c.num) : (litJ c).length ≤ 18002 := by
  have hq := quoteL_len' c.text
  have hi := Lib.itoa_length_le c.num hr.1 hr.2
  unfold litJ
  split
  · simp
  · split
    · split <;> simp
    · split
      · omega
      · omega
theorem ShortV.drop {V : List Cel} (h : ShortV V) (n : Nat) : ShortV (V.drop n) := fun c hc => h c (List.mem_of_mem_drop hc)
theorem kidsJ_len (f : List Cel → Option Nat) (tf : List Cel → List UInt8) (h : ∀ l k, ShortV l → f l = some k → (tf l).length + 1804 ≤ 20000 * k) (isL isO : Bool) : ∀ (n : Nat) (first : Bool) (nm : List (List UInt8)) (l : List Cel) (k : Nat), ShortV l → kidsN f isL n nm l = some k → (kidsJ f tf isO n first l).length ≤ 20000 * k
  | 0, first, nm, l, k, hs, hk => by
    rw [kidsJ]; simp
  | n + 1, first, nm, [], k, hs, hk => by cases hk
  | n + 1, first, nm, c :: r, k, hs, hk => by
    rw [kidsN] at hk
    split at hk
    · split at hk
      · cases hk
      · rename_i k1 hk1
        rw [Option.map_eq_some_iff] at hk
        obtain ⟨k2, hk2, rfl⟩ := hk
        have ih := kidsJ_len f tf h isL isO n false _ _ k2 (hs.drop k1) hk2
        have h1 := h _ _ hs hk1
        have h2 := preJ_len isO first _ hs
        rw [kidsJ, hk1, Option.getD_some]
        rw [List.length_append, List.length_append]
        omega
    · cases hk
theorem headJ_len (kids : Cel → List Cel → Option Nat) (kj : Cel → List Cel → List UInt8) (l : List Cel) (k : Nat) (hs : ShortV l) (h : headN kids l = some k) (hk : ∀ c r k, l = c :: r → kids c r = some k → (kj c r).length ≤ 20000 * k) : (headJ kj l).length + 1804 ≤ 20000 * k := by
  cases l with
  | nil => cases h
  | cons c r =>
    obtain ⟨_, s2, s3, _⟩ := hs c (List.mem_cons_self ..)
    rw [headN_cons] at h
    rw [headJ_cons]
    cases h1 : oneC c with
    | false => rw [h1] at h; cases h
    | true =>
      cases h2 : nestC c with
      | false =>
        rw [h1, h2] at h
        obtain rfl : 1 = k := Option.some.inj h
        have := litJ_len c s2 s3
        show (litJ c).length + 1804 ≤ _
        omega
      | true =>
        rw [h1, h2, if_pos rfl, if_pos rfl, Option.map_eq_some_iff] at h
        obtain ⟨k2, hk2, rfl⟩ := h
        have := hk c r k2 rfl hk2
        rw [if_pos rfl, List.length_append, List.length_append]
        have e1 : (if (c.kind == 6) = true then ([91] : List UInt8) else [123]).length = 1 := by split <;> rfl
        have e2 : (if (c.kind == 6) = true then ([93] : List UInt8) else [125]).length = 1 := by split <;> rfl
        rw [e1, e2]
        omega
theorem textJ_len : ∀ (d : Nat) (l : List Cel) (k : Nat), ShortV l → valN d l = some k → (textJ d l).length + 1804 ≤ 20000 * k
  | 0, l, k, hs, h => headJ_len _ _ l k hs h (fun c r k _ h => by cases h)
  | d + 1, l, k, hs, h => headJ_len _ _ l k hs h (fun c r k e h => kidsJ_len (valN d) (textJ d) (textJ_len d) _ _ _ _ _ _ _ (fun x hx => hs x (by rw [e]; exact List.mem_cons_of_mem _ hx)) h)
/-- One round: where the next one begins. -/
theorem KS.step {V : List Cel} {d1 k : Nat} {isL : Bool} {n : Nat} {g : Nat} {nm : List (List UInt8)} {u p : Nat} (h : KS V d1 k isL (some n) (g + 1) nm u) (hpu : p = k + 1 + u) : ∃ (hp : p < V.length) (n1 : Nat), valN d1 (V.drop p) = some n1 ∧ KS V d1 k isL (some n) g (V[p].name :: nm) (u + n1) := by
  have hp : p < V.length := by
    rcases Nat.lt_or_ge p V.length with h' | h'
    · exact h'
    · have := h.out_ (by omega); cases this
  have hok : okN isL nm V[p].name = true := by
    cases ho : okN isL nm V[p].name with
    | true => rfl
    | false => have := h.bad hpu hp ho; cases this
  cases hv : valN d1 (V.drop p) with
  | none => have := h.fail hpu hp hok hv; cases this
  | some n1 => exact ⟨hp, n1, rfl, h.next hpu hp hok hv⟩
end Go.Proofs.YteapenemnnhonaaDoor
