/- Which selections may be, plainly: so many in a row, each with what stands under it. -/
import Derived.Test.YtbejhdhhkpllfaaGreatDoorXa
import Derived.Test.YtbejhdhhkpllfaaGreatDoorRo4
set_option linter.unusedSimpArgs false
set_option linter.unusedVariables false
namespace Go.Proofs.YtbejhdhhkpllfaaGreatDoor
def onK : List UInt8 := [111, 110]
/-- A selection by itself: the program's words. -/
noncomputable def selB (x : SelD) : Bool := namedB [] x.args && x.dirs.all dirB && decide (0 ≤ x.many) &&
  (if x.kind = 1 then nameB x.name && (x.als.isEmpty || nameB x.als)
   else if x.kind = 2 then nameB x.name && !eqB x.name onK && x.als.isEmpty && x.args.isEmpty && decide (x.many = 0)
   else if x.kind = 3 then (x.name.isEmpty || nameB x.name) && x.als.isEmpty && x.args.isEmpty && decide (0 < x.many)
   else false)
/-- Is there room for what stands under it, so many braces being open? -/
noncomputable def deepB (x : SelD) (open_ : Nat) : Bool := selB x && !(decide (0 < x.many) && decide (open_ = 16))
/-- The place behind so many selections. -/
noncomputable def runS (L : List SelD) : Nat → Nat → Nat → Nat → Option Nat
  | _, p, 0, _ => some p
  | 0, _, _ + 1, _ => none
  | f + 1, p, r + 1, o => match L[p]? with
    | none => none
    | some x => if deepB x o then (match runS L f (p + 1) x.many.toNat (o + 1) with
      | none => none
      | some q => runS L f q r o) else none
theorem runS_zero (L : List SelD) (f p o : Nat) : runS L f p 0 o = some p := by cases f <;> rfl
theorem runS_stop (L : List SelD) (p r o : Nat) : runS L 0 p (r + 1) o = none := rfl
theorem runS_out (L : List SelD) (f p r o : Nat) (h : L.length ≤ p) : runS L f p (r + 1) o = none := by
  cases f with
  | zero => rfl
  | succ f => rw [runS, List.getElem?_eq_none h]
theorem runS_no (L : List SelD) (f p r o : Nat) (h : p < L.length) (hx : deepB L[p] o = false) : runS L f p (r + 1) o = none := by
  cases f with
  | zero => rfl
  | succ f => rw [runS, List.getElem?_eq_getElem h]; simp [hx]
theorem runS_bad (L : List SelD) (f p r o : Nat) (h : p < L.length) (hx : deepB L[p] o = true) (hu : runS L f (p + 1) L[p].many.toNat (o + 1) = none) : runS L (f + 1) p (r + 1) o = none := by
  rw [runS, List.getElem?_eq_getElem h]
  simp [hx, hu]
theorem runS_next (L : List SelD) (f p r o q : Nat) (h : p < L.length) (hx : deepB L[p] o = true) (hu : runS L f (p + 1) L[p].many.toNat (o + 1) = some q) : runS L (f + 1) p (r + 1) o = runS L f q r o := by
  rw [runS, List.getElem?_eq_getElem h]
  simp [hx, hu]
/-- Where it ends is behind where it began, and no further than the end. -/
theorem runS_ends (L : List SelD) : ∀ (f p r o q : Nat), p ≤ L.length → runS L f p r o = some q → p ≤ q ∧ q ≤ L.length
  | f, p, 0, o, q, hp, h => by
    rw [runS_zero] at h
    injection h with h
    omega
  | 0, p, r + 1, o, q, hp, h => by cases h
  | f + 1, p, r + 1, o, q, hp, h => by
    by_cases hl : p < L.length
    · cases hx : deepB L[p] o with
      | false => rw [runS_no L _ p r o hl hx] at h; cases h
      | true =>
        cases hu : runS L f (p + 1) L[p].many.toNat (o + 1) with
        | none => rw [runS_bad L f p r o hl hx hu] at h; cases h
        | some m =>
          rw [runS_next L f p r o m hl hx hu] at h
          have h1 := runS_ends L f (p + 1) _ _ m (by omega) hu
          have h2 := runS_ends L f m r o q h1.2 h
          omega
    · rw [runS_out L _ p r o (by omega)] at h; cases h
/-- A selection and what stands under it. -/
noncomputable def behS (L : List SelD) (f p o : Nat) : Option Nat := match L[p]? with
  | none => none
  | some x => if deepB x o then runS L f (p + 1) x.many.toNat (o + 1) else none
theorem behS_out (L : List SelD) (f p o : Nat) (h : L.length ≤ p) : behS L f p o = none := by
  unfold behS
  rw [List.getElem?_eq_none h]
theorem behS_no (L : List SelD) (f p o : Nat) (h : p < L.length) (hx : deepB L[p] o = false) : behS L f p o = none := by
  unfold behS
  rw [List.getElem?_eq_getElem h]; simp [hx]
theorem behS_yes (L : List SelD) (f p o : Nat) (h : p < L.length) (hx : deepB L[p] o = true) : behS L f p o = runS L f (p + 1) L[p].many.toNat (o + 1) := by
  unfold behS
  rw [List.getElem?_eq_getElem h]; simp [hx]
theorem runS_beh (L : List SelD) (f p r o : Nat) : runS L (f + 1) p (r + 1) o = match behS L f p o with
    | none => none
    | some q => runS L f q r o := by
  unfold behS
  rw [runS]
  cases L[p]? with
  | none => rfl
  | some x =>
    simp only
    cases deepB x o with
    | false => rfl
    | true => rfl
theorem runS_beh_none {L : List SelD} {f p r o : Nat} (h : behS L f p o = none) : runS L (f + 1) p (r + 1) o = none := by rw [runS_beh, h]
theorem runS_beh_some {L : List SelD} {f p r o q : Nat} (h : behS L f p o = some q) : runS L (f + 1) p (r + 1) o = runS L f q r o := by rw [runS_beh, h]
theorem behS_ends (L : List SelD) (f p o q : Nat) (h : behS L f p o = some q) : p < q ∧ q ≤ L.length := by
  by_cases hl : p < L.length
  · cases hx : deepB L[p] o with
    | false => rw [behS_no L f p o hl hx] at h; cases h
    | true =>
      rw [behS_yes L f p o hl hx] at h
      have := runS_ends L f (p + 1) _ _ q (by omega) h
      omega
  · rw [behS_out L f p o (by omega)] at h; cases h
/-- All, so many at the top. -/
noncomputable def selsB (L : List SelD) (many : Int) : Bool := decide (0 < many) && decide (runS L L.length 0 many.toNat 1 = some L.length)
/-- The reference's words for one selection, so many braces being open: is there something against it? -/
def badS1 (x : SelD) : Bool := decide (x.kind.toNat < 1) || decide (3 < x.kind.toNat) || decide (x.many < 0) || !namedB [] x.args || !x.dirs.all dirB || (!decide (x.kind.toNat = 1) && (!x.als.isEmpty || decide (0 < x.args.length)))
def badS2 (x : SelD) : Bool := (!x.als.isEmpty && !nameB x.als) || (!nameB x.name && (!decide (x.kind.toNat = 3) || !x.name.isEmpty))
noncomputable def badS3 (x : SelD) (o : Nat) : Bool := (decide (x.kind.toNat = 2) && (!decide (x.many = 0) || eqB x.name onK)) || (decide (x.kind.toNat = 3) && decide (x.many = 0)) || (decide (0 < x.many) && decide (o = 16))
theorem u8_kind (k : UInt8) (n : Nat) (hn : n < 256) : (k = UInt8.ofNat n) ↔ k.toNat = n := by
  rw [← UInt8.toNat_inj, UInt8.toNat_ofNat', Nat.mod_eq_of_lt (by omega)]
theorem deepB_bad (x : SelD) (o : Nat) : deepB x o = !(badS1 x || badS2 x || badS3 x o) := by
  obtain ⟨kind, als, name, args, dirs, many⟩ := x
  unfold deepB selB badS1 badS2 badS3
  simp only
  have k1 : (kind = 1) ↔ kind.toNat = 1 := u8_kind kind 1 (by decide)
  have k2 : (kind = 2) ↔ kind.toNat = 2 := u8_kind kind 2 (by decide)
  have k3 : (kind = 3) ↔ kind.toNat = 3 := u8_kind kind 3 (by decide)
  simp only [k1, k2, k3]
  generalize kind.toNat = k
  have ha : decide (0 < args.length) = !args.isEmpty := by cases args <;> simp
  have hem : ∀ l : List UInt8, l.isEmpty = true → nameB l = false := fun l h => by cases l with
    | nil => rfl
    | cons => cases h
  rw [ha]
  generalize namedB [] args = bA
  generalize dirs.all dirB = bD
  generalize args.isEmpty = eA
  have hna := hem als
  have hnn := hem name
  generalize nameB als = nA at *
  generalize nameB name = nN at *
  generalize als.isEmpty = zA at *
  generalize name.isEmpty = zN at *
  generalize eqB name onK = on
  by_cases h1 : k = 1
  · subst h1
    by_cases hm : many < 0
    · have hm2 : ¬ 0 ≤ many := by omega
      have hm3 : ¬ 0 < many := by omega
      simp [hm, hm2, hm3]
    · have hm2 : 0 ≤ many := by omega
      by_cases hp : 0 < many <;> by_cases ho : o = 16 <;> cases bA <;> cases bD <;> cases eA <;> cases nA <;> cases nN <;> cases zA <;> simp_all
  · by_cases h2 : k = 2
    · subst h2
      by_cases hm : many = 0
      · subst hm
        cases bA <;> cases bD <;> cases eA <;> cases nA <;> cases nN <;> cases zA <;> cases zN <;> cases on <;> simp_all
      · simp [hm]
    · by_cases h3 : k = 3
      · subst h3
        by_cases hp : 0 < many
        · have hm : ¬ many < 0 := by omega
          have hm0 : ¬ many = 0 := by omega
          have hm2 : 0 ≤ many := by omega
          by_cases ho : o = 16 <;> cases bA <;> cases bD <;> cases eA <;> cases nA <;> cases nN <;> cases zA <;> cases zN <;> simp_all
        · by_cases hm : many < 0
          · simp [hp, hm]
          · have hm0 : many = 0 := by omega
            simp [hp, hm0]
      · have : k < 1 ∨ 3 < k := by omega
        rcases this with h | h
        · simp [h1, h2, h3, h]
        · simp [h1, h2, h3, h]
end Go.Proofs.YtbejhdhhkpllfaaGreatDoor
