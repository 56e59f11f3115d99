/- Definitions (api.Def), inputs, fields: their data, how they lie in rows; opened among a law's parameters. -/
import Derived.Test.YtbejhdhhkpllfaaGreatDoorRo4
import Derived.RangeFuncOwn
set_option linter.unusedVariables false
set_option linter.unusedSimpArgs false
namespace Go.Proofs.YtbejhdhhkpllfaaGreatDoor
open Go.RowKit Go.WideShapes Go.ChangeShapes Go.Joins Go.Deep
abbrev ArgD := List UInt8 × List Cel
abbrev DirD := List UInt8 × List ArgD
/-- Arguments whose room is no less than their number; directives of such arguments. -/
def capA (u : Value) : Prop := ∃ a n c, u = .slice a n c ∧ n ≤ c
def ArgSlc (v : Value) (L : List ArgD) (W : World) : Prop := ArgSl v L W ∧ capA v
abbrev DirSlc : Value → List DirD → World → Prop := XSl ArgSlc
theorem ArgSlc.below {v : Value} {L : List ArgD} {w w' : World} (h : ArgSlc v L w) (hb : Below w.heap.size w w') : ArgSlc v L w' := ⟨ArgSl.below h.1 hb, h.2⟩
theorem DirSlc.below {v : Value} {L : List DirD} {w w' : World} (h : DirSlc v L w) (hb : Below w.heap.size w w') : DirSlc v L w' := XSl.below h (fun _ _ h => ArgSlc.below h hb) hb
theorem DirSlc.dir {v : Value} {L : List DirD} {w : World} (h : DirSlc v L w) : DirSl v L w := by
  rcases h with h | ⟨b, off, cap, h1, h2, h3⟩
  · exact Or.inl h
  · refine Or.inr ⟨b, off, cap, h1, fun i hi => ?_, h3⟩
    obtain ⟨g0, a, n, c, g1, g2⟩ := h2 i hi
    exact ⟨g0, a, n, c, g1, g2.1⟩
structure Inp where
  name : List UInt8
  tnm : List UInt8
  wr : List UInt8
  has : Bool
  dflt : List Cel
  dirs : List DirD
structure Fld where
  name : List UInt8
  args : List Inp
  tnm : List UInt8
  wr : List UInt8
  dirs : List DirD
structure Dfn where
  kind : UInt8
  name : List UInt8
  dirs : List DirD
  names : List (List UInt8)
  inputs : List Inp
  fields : List Fld
/-- A slice's element that is a slice: what it holds. -/
def SlC {α : Type} (Sl : Value → α → World → Prop) (a : Addr) (x : α) (W : World) : Prop := ∃ b l c, W.cell? a = some (.slice b l c) ∧ Sl (.slice b l c) x W
def StrC (a : Addr) (x : List UInt8) (W : World) : Prop := W.cell? a = some (.string ⟨x.toArray⟩)
/-- Elements of so many cells in a row. -/
def RowG {α : Type} (k : Nat) (E : Addr → α → World → Prop) (a : Addr) (L : List α) (W : World) : Prop := ∀ (i : Nat) (h : i < L.length), E (a.add (i * k)) L[i] W
def SlG {α : Type} (k : Nat) (E : Addr → α → World → Prop) (v : Value) (L : List α) (W : World) : Prop := (∃ a cap, v = .slice a 0 cap ∧ L = []) ∨ ∃ b off cap, v = .slice (some ⟨b, off, none⟩) L.length cap ∧ RowG k E ⟨b, off, none⟩ L W ∧ 0 < L.length
def InpE (a : Addr) (x : Inp) (W : World) : Prop := StrC (a.add 0) x.name W ∧ StrC (a.add 1) x.tnm W ∧ SlC BSl (a.add 2) x.wr W ∧ W.cell? (a.add 3) = some (.bool x.has) ∧ SlC CelSl (a.add 4) x.dflt W ∧ SlC DirSlc (a.add 5) x.dirs W
abbrev InpSl : Value → List Inp → World → Prop := SlG 6 InpE
def FldE (a : Addr) (x : Fld) (W : World) : Prop := StrC (a.add 0) x.name W ∧ SlC InpSl (a.add 1) x.args W ∧ StrC (a.add 2) x.tnm W ∧ SlC BSl (a.add 3) x.wr W ∧ SlC DirSlc (a.add 4) x.dirs W
abbrev FldSl : Value → List Fld → World → Prop := SlG 5 FldE
abbrev NmsSl : Value → List (List UInt8) → World → Prop := SlG 1 StrC
def DfnE (a : Addr) (x : Dfn) (W : World) : Prop := W.cell? (a.add 0) = some (.int .u8 (x.kind.toNat : Int)) ∧ StrC (a.add 1) x.name W ∧ SlC DirSlc (a.add 2) x.dirs W ∧ SlC NmsSl (a.add 3) x.names W ∧ SlC InpSl (a.add 4) x.inputs W ∧ SlC FldSl (a.add 5) x.fields W
abbrev DfnSl : Value → List Dfn → World → Prop := SlG 6 DfnE
/-! ### What lay stays -/
theorem cellA_below {w w' : World} {a : Addr} {v : Value} (h : w.cell? a = some v) (hb : Below w.heap.size w w') : w'.cell? a = some v := by
  obtain ⟨o, ho, _⟩ := cells_of_cell h
  exact (hb.cell (p := a) (heap_lt ho)).trans h
theorem SlC.below {α : Type} {Sl : Value → α → World → Prop} {a : Addr} {x : α} {w w' : World} (h : SlC Sl a x w) (hS : ∀ u x, Sl u x w → Sl u x w') (hb : Below w.heap.size w w') : SlC Sl a x w' := by
  obtain ⟨b, l, c, h1, h2⟩ := h
  exact ⟨b, l, c, cellA_below h1 hb, hS _ _ h2⟩
theorem StrC.below {a : Addr} {x : List UInt8} {w w' : World} (h : StrC a x w) (hb : Below w.heap.size w w') : StrC a x w' := cellA_below h hb
theorem SlG.below {α : Type} {k : Nat} {E : Addr → α → World → Prop} {v : Value} {L : List α} {w w' : World} (h : SlG k E v L w) (hE : ∀ a x, E a x w → E a x w') : SlG k E v L w' := by
  rcases h with h | ⟨b, off, cap, h1, h2, h3⟩
  · exact Or.inl h
  · exact Or.inr ⟨b, off, cap, h1, fun i hi => hE _ _ (h2 i hi), h3⟩
theorem InpE.below {a : Addr} {x : Inp} {w w' : World} (h : InpE a x w) (hb : Below w.heap.size w w') : InpE a x w' := by
  obtain ⟨h0, h1, h2, h3, h4, h5⟩ := h
  exact ⟨h0.below hb, h1.below hb, h2.below (fun _ _ h => h.below hb) hb, cellA_below h3 hb, h4.below (fun _ _ h => h.below hb) hb, h5.below (fun _ _ h => DirSlc.below h hb) hb⟩
theorem InpSl.below {v : Value} {L : List Inp} {w w' : World} (h : InpSl v L w) (hb : Below w.heap.size w w') : InpSl v L w' := SlG.below h fun _ _ h => h.below hb
theorem FldE.below {a : Addr} {x : Fld} {w w' : World} (h : FldE a x w) (hb : Below w.heap.size w w') : FldE a x w' := by
  obtain ⟨h0, h1, h2, h3, h4⟩ := h
  exact ⟨h0.below hb, h1.below (fun _ _ h => InpSl.below h hb) hb, h2.below hb, h3.below (fun _ _ h => h.below hb) hb, h4.below (fun _ _ h => DirSlc.below h hb) hb⟩
theorem FldSl.below {v : Value} {L : List Fld} {w w' : World} (h : FldSl v L w) (hb : Below w.heap.size w w') : FldSl v L w' := SlG.below h fun _ _ h => h.below hb
theorem NmsSl.below {v : Value} {L : List (List UInt8)} {w w' : World} (h : NmsSl v L w) (hb : Below w.heap.size w w') : NmsSl v L w' := SlG.below h fun _ _ h => h.below hb
theorem DfnE.below {a : Addr} {x : Dfn} {w w' : World} (h : DfnE a x w) (hb : Below w.heap.size w w') : DfnE a x w' := by
  obtain ⟨h0, h1, h2, h3, h4, h5⟩ := h
  exact ⟨cellA_below h0 hb, h1.below hb, h2.below (fun _ _ h => DirSlc.below h hb) hb, h3.below (fun _ _ h => NmsSl.below h hb) hb, h4.below (fun _ _ h => InpSl.below h hb) hb, h5.below (fun _ _ h => FldSl.below h hb) hb⟩
theorem DfnSl.below {v : Value} {L : List Dfn} {w w' : World} (h : DfnSl v L w) (hb : Below w.heap.size w w') : DfnSl v L w' := SlG.below h fun _ _ h => h.below hb
/-! ### Opened -/
section
variable {H : Type} {enc : TypeId × Value → H} {w : World} {base : Nat} {spare : Nat → Bool} {held : Bool}
theorem sl_of {α : Type} {k : Nat} {E : Addr → α → World → Prop} {Pr : α → Prop} (w : World) (a : Addr) : ∀ n : Nat, (∀ i, i < n → ∃ y : α, E (a.add (i * k)) y w ∧ Pr y) →
    ∃ L : List α, L.length = n ∧ (∀ t ∈ L, Pr t) ∧ RowG k E a L w
  | 0, _ => ⟨[], rfl, (fun t h => by cases h), (fun i h => absurd h (by simp))⟩
  | n + 1, h => by
    obtain ⟨L, hl, hz, hc⟩ := sl_of w a n fun i hi => h i (by omega)
    obtain ⟨y, hy, hp⟩ := h n (by omega)
    refine ⟨L ++ [y], by simp [hl], ?_, ?_⟩
    · intro x hx
      rcases List.mem_append.1 hx with hx | hx
      · exact hz x hx
      · rw [List.mem_singleton] at hx
        rw [hx]; exact hp
    · intro i hi
      by_cases hin : i < L.length
      · rw [List.getElem_append_left hin]
        exact hc i hin
      · have hin' : i = L.length := by
          rw [List.length_append] at hi
          simp at hi
          omega
        subst hin'
        rw [List.getElem_append_right (Nat.le_refl _)]
        simp only [Nat.sub_self, List.getElem_cons_zero]
        rw [hl]
        exact hy
theorem open_slg {P : Program} {α : Type} {E : Addr → α → World → Prop} {Pr : α → Prop} {t e : TypeId} {k fuel : Nat} {v : Value} {x : DataW H × List MemPlace} (ht : P.underlying t = some (.slice e)) (ce : P.cellsOf e = k)
    (hc0 : ∀ a y, E a y w → ∃ u, w.cell? (a.add 0) = some u)
    (hop : ∀ n a cs y, w.cells? base a k = some cs → DataW.trod enc P w base spare held n e cs = some y → ∃ z : α, E a z w ∧ Pr z)
    (h : DataW.trod enc P w base spare held fuel t [v] = some x) :
    ∃ L : List α, SlG k E v L w ∧ L.length ≤ maxLen ∧ ∀ t ∈ L, Pr t := by
  rcases open_slice ht h with ⟨h0, _⟩ | ⟨a, len, cap, m, n, D, Pl, h0, hb, hl, hm, hmm, hx, hi⟩
  · injection h0 with h0
    exact ⟨[], Or.inl ⟨_, _, h0, rfl⟩, Nat.zero_le _, fun t h => by cases h⟩
  · injection h0 with h0
    have hlm : len ≤ m := by rw [hmm]; split <;> omega
    obtain ⟨L, hL, hz, hc⟩ := sl_of (k := k) (E := E) (Pr := Pr) w a len (fun i hil => by
      obtain ⟨cs', g0, t0⟩ := hi i (by omega)
      rw [ce] at g0
      exact hop _ _ _ _ g0 t0)
    refine ⟨L, ?_, by omega, hz⟩
    by_cases h0l : L = []
    · rw [h0l] at hL
      refine Or.inl ⟨some a, cap, ?_, h0l⟩
      rw [h0, ← hL]; rfl
    · have hpos : 0 < L.length := List.length_pos_iff.2 h0l
      obtain ⟨ab, ao, asp⟩ := a
      obtain ⟨u, hu⟩ := hc0 _ _ (hc 0 hpos)
      have hspot : asp = none := by
        have := World.cell?_spot hu
        simpa [Addr.add] using this
      subst hspot
      exact Or.inr ⟨ab, ao, cap, by rw [h0, hL], hc, hpos⟩
end
end Go.Proofs.YtbejhdhhkpllfaaGreatDoor
