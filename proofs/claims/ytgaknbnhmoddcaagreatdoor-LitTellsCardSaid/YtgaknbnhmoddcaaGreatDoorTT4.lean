/- Walks and plain laws of this proof, joined from smaller texts (4). -/
import Derived.ProofKit
import Derived.OpenShut
import Derived.Lib.SmallJoins
import Derived.Deep.Slices
import Derived.Deep.Fields
import Derived.ChangeSame
import Derived.Deep.SlicePairs
import Derived.Deep.DeepCutAuto
import Derived.Deep.LoopGhost
import Derived.Maps.RangeWalk
import Derived.Test.YtgaknbnhmoddcaaGreatDoorRows
import Derived.Below
import Derived.Test.YtgaknbnhmoddcaaGreatDoorTT3
set_option linter.unusedSimpArgs false
set_option linter.unusedVariables false
namespace Go.Proofs.YtgaknbnhmoddcaaGreatDoor
open Go.RowKit Go.WideShapes Go.ChangeShapes Go.Joins Go.Deep
theorem cells_cell : Tryz.prog.cellsOf 63 = 5 := by kernel_rfl
section
variable {H : Type} {enc : TypeId × Value → H} {w : World} {base : Nat} {spare : Nat → Bool} {held : Bool}
theorem cels_of (w : World) (a : Addr) : ∀ n : Nat, (∀ i, i < n → ∃ (k : UInt8) (s t : ByteArray) (p q : Int), w.cell? (a.add (i * 5)) = some (.int .u8 (k.toNat : Int)) ∧ w.cell? (a.add (i * 5 + 1)) = some (.string s) ∧ w.cell? (a.add (i * 5 + 2)) = some (.string t) ∧ w.cell? (a.add (i * 5 + 3)) = some (.int .i64 p) ∧ w.cell? (a.add (i * 5 + 4)) = some (.int .i64 q) ∧ s.size ≤ maxLen ∧ t.size ≤ maxLen ∧ R p ∧ R q) →
    ∃ L : List Cel, L.length = n ∧ (∀ t ∈ L, t.name.length ≤ maxLen ∧ t.text.length ≤ maxLen ∧ R t.num ∧ R t.many) ∧ ∀ (i : Nat) (h : i < L.length), w.cell? (a.add (i * 5)) = some (.int .u8 (L[i].kind.toNat : Int)) ∧ w.cell? (a.add (i * 5 + 1)) = some (.string ⟨L[i].name.toArray⟩) ∧ w.cell? (a.add (i * 5 + 2)) = some (.string ⟨L[i].text.toArray⟩) ∧ w.cell? (a.add (i * 5 + 3)) = some (.int .i64 L[i].num) ∧ w.cell? (a.add (i * 5 + 4)) = some (.int .i64 L[i].many)
  | 0, _ => ⟨[], rfl, (fun t h => by cases h), (fun i h => absurd h (by simp))⟩
  | n + 1, h => by
    obtain ⟨L, hl, hz, hc⟩ := cels_of w a n fun i hi => h i (by omega)
    obtain ⟨k, s, t, p, q, c0, c1, c2, c3, c4, hs, ht, hp, hq⟩ := h n (by omega)
    refine ⟨L ++ [⟨k, s.data.toList, t.data.toList, p, q⟩], by simp [hl], ?_, ?_⟩
    · intro x hx
      rcases List.mem_append.1 hx with hx | hx
      · exact hz x hx
      · rw [List.mem_singleton] at hx
        rw [hx]
        refine ⟨?_, ?_, hp, hq⟩
        · show s.data.toList.length ≤ maxLen
          rw [Array.length_toList]
          exact hs
        · show t.data.toList.length ≤ maxLen
          rw [Array.length_toList]
          exact ht
    · intro i hi
      by_cases hin : i < L.length
      · rw [List.getElem_append_left hin]
        exact hc i hin
      · have hin' : i = L.length := by
          rw [List.length_append] at hi
          simp at hi
          omega
        subst hin'
        rw [List.getElem_append_right (Nat.le_refl _)]
        simp only [Nat.sub_self, List.getElem_cons_zero]
        rw [hl]
        refine ⟨c0, ?_, ?_, c3, c4⟩
        · rw [c1]
        · rw [c2]
/-- An element of a slice of structs, whose fields have one cell each: each field's cell, and its reading. -/
theorem elem_fields {P : Program} {H : Type} {enc : TypeId × Value → H} {w : World} {base : Nat} {spare : Nat → Bool} {held : Bool} {e : TypeId} {fs : Array Field} (he : P.underlying e = some (.struct fs)) (hone : oneCellFields P fs = true) {a : Addr} {k n : Nat} {cs : List Value} {x : DataW H × List MemPlace}
    (hk : k = P.cellsOf e) (hk2 : k = fs.size) (hc : w.cells? base a k = some cs) (ht : DataW.trod enc P w base spare held n e cs = some x) (j : Nat) (f : Field) (hj : fs[j]? = some f) :
    ∃ (v : Value) (y : DataW H × List MemPlace) (n' : Nat), w.cell? (a.add j) = some v ∧ DataW.trod enc P w base spare held n' f.type [v] = some y := by
  obtain ⟨ys, n', hn', hy, hlen, hyl, hf⟩ := DataW.trod_struct he ht
  obtain ⟨_, hcl, hat⟩ := World.cells?_some hc
  obtain ⟨ho, h1⟩ := hone_of hone j f hj
  have hjl : j < fs.size := (Array.getElem?_eq_some_iff.1 hj).1
  have hjc : j < cs.length := by omega
  have hcell := hat j (by omega)
  have g := hf j f hj
  rw [ho, h1, List.drop_eq_getElem_cons hjc] at g
  have hys : ys[j]? = some (ys[j]'(by omega)) := List.getElem?_eq_getElem (by omega)
  refine ⟨cs[j], ys[j]'(by omega), n', ?_, ?_⟩
  · rw [hcell]; exact List.getElem?_eq_getElem hjc
  · exact g.trans hys
theorem open_cells {v : Value} {d : DataW H} {p : List MemPlace} (hv : ∃ a l c, v = .slice a l c) (h : DataW.Trod enc Tryz.prog w base spare held 22 v d p) :
    ∃ L : List Cel, CelSl v L w ∧ L.length ≤ maxLen ∧ ∀ t ∈ L, t.name.length ≤ maxLen ∧ t.text.length ≤ maxLen ∧ R t.num ∧ R t.many := by
  obtain ⟨fuel, hf⟩ := h
  obtain ⟨sa, sl, sc, rfl⟩ := hv
  have hcs : (Value.slice sa sl sc).cells.toList = [.slice sa sl sc] := rfl
  rw [hcs] at hf
  rcases open_slice Tryz.underlying22 hf with ⟨h0, _⟩ | ⟨a, len, cap, m, n, D, Pl, h0, hb, hl, hm, hmm, hx, hi⟩
  · injection h0 with h0
    exact ⟨[], Or.inl ⟨_, _, h0, rfl, fun _ => rfl⟩, by decide, fun t h => by cases h⟩
  · injection h0 with h0
    have hlm : len ≤ m := by rw [hmm]; split <;> omega
    obtain ⟨L, hL, hz, hc⟩ := cels_of w a len (fun i hil => by
      obtain ⟨cs', hc, ht⟩ := hi i (by omega)
      rw [cells_cell] at hc
      have F := fun j f hj => elem_fields Tryz.underlying63 (by kernel_rfl) cells_cell.symm rfl hc ht j f hj
      obtain ⟨v0, y0, n0, g0, t0⟩ := F 0 _ rfl
      obtain ⟨v1, y1, n1, g1, t1⟩ := F 1 _ rfl
      obtain ⟨v2, y2, n2, g2, t2⟩ := F 2 _ rfl
      obtain ⟨v3, y3, n3, g3, t3⟩ := F 3 _ rfl
      obtain ⟨v4, y4, n4, g4, t4⟩ := F 4 _ rfl
      obtain ⟨k, e0, _, wk⟩ := DataW.trod_int Tryz.underlying5 t0
      obtain ⟨s, e1, _, ws⟩ := DataW.trod_string Tryz.underlying9 t1
      obtain ⟨t, e2, _, wt⟩ := DataW.trod_string Tryz.underlying9 t2
      obtain ⟨p, e3, _, wp⟩ := DataW.trod_int Tryz.underlying2 t3
      obtain ⟨q, e4, _, wq⟩ := DataW.trod_int Tryz.underlying3 t4
      injection e0 with e0
      injection e1 with e1
      injection e2 with e2
      injection e3 with e3
      injection e4 with e4
      subst e0 e1 e2 e3 e4
      obtain ⟨k1, k2⟩ := Go.bounds_u8 wk
      have hk : ((UInt8.ofNat k.toNat).toNat : Int) = k := by
        rw [UInt8.toNat_ofNat']
        omega
      refine ⟨UInt8.ofNat k.toNat, s, t, p, q, ?_, ?_, ?_, ?_, ?_, ws, wt, Go.bounds_i64 wp, Go.bounds_i64 wq⟩
      · rw [hk, ← g0]
        rw [Go.Deep.add_add]; rfl
      · rw [← g1, Go.Deep.add_add]
      · rw [← g2, Go.Deep.add_add]
      · rw [← g3, Go.Deep.add_add]
      · rw [← g4, Go.Deep.add_add])
    refine ⟨L, ?_, by omega, hz⟩
    by_cases h0l : L = []
    · rw [h0l] at hL
      refine Or.inl ⟨some a, cap, ?_, h0l, fun h => by cases h⟩
      rw [h0, ← hL]; rfl
    · have hpos : 0 < L.length := List.length_pos_iff.2 h0l
      obtain ⟨ab, ao, asp⟩ := a
      have hspot : asp = none := by simpa [Addr.add] using World.cell?_spot (hc 0 hpos).1
      subst hspot
      have hadd : ∀ j, (⟨ab, ao, none⟩ : Addr).add j = ⟨ab, ao + j, none⟩ := by
        intro j
        unfold Addr.add
        split
        · rename_i hz; rw [hz]; rfl
        · rfl
      refine Or.inr ⟨ab, ao, cap, by rw [h0, hL], ?_, hpos⟩
      intro k hk
      obtain ⟨q0, q1, q2, q3, q4⟩ := hc k hk
      rw [hadd] at q0 q1 q2 q3 q4
      exact ⟨q0, q1, q2, q3, q4⟩
end
end Go.Proofs.YtgaknbnhmoddcaaGreatDoor
namespace Go.Proofs.YtgaknbnhmoddcaaGreatDoor
open Go.RowKit Go.WideShapes Go.ChangeShapes Go.Joins Go.Deep
section
variable {H : Type} {enc : TypeId × Value → H} {w : World} {base : Nat} {spare : Nat → Bool} {held : Bool}
theorem xs_of {α : Type} {Sl : Value → α → World → Prop} {Pr : α → Prop} (w : World) (a : Addr) : ∀ n : Nat, (∀ i, i < n → ∃ (s : ByteArray) (b : Option Addr) (l c : Nat) (y : α), w.cell? (a.add (i * 2)) = some (.string s) ∧ w.cell? (a.add (i * 2 + 1)) = some (.slice b l c) ∧ Sl (.slice b l c) y w ∧ s.size ≤ maxLen ∧ Pr y) →
    ∃ L : List (List UInt8 × α), L.length = n ∧ (∀ t ∈ L, t.1.length ≤ maxLen ∧ Pr t.2) ∧ ∀ (i : Nat) (h : i < L.length), w.cell? (a.add (i * 2)) = some (.string ⟨L[i].1.toArray⟩) ∧ ∃ b l c, w.cell? (a.add (i * 2 + 1)) = some (.slice b l c) ∧ Sl (.slice b l c) L[i].2 w
  | 0, _ => ⟨[], rfl, (fun t h => by cases h), (fun i h => absurd h (by simp))⟩
  | n + 1, h => by
    obtain ⟨L, hl, hz, hc⟩ := xs_of w a n fun i hi => h i (by omega)
    obtain ⟨s, b, l, c, y, c0, c1, hs, hz1, hy⟩ := h n (by omega)
    refine ⟨L ++ [(s.data.toList, y)], by simp [hl], ?_, ?_⟩
    · intro x hx
      rcases List.mem_append.1 hx with hx | hx
      · exact hz x hx
      · rw [List.mem_singleton] at hx
        rw [hx]
        refine ⟨?_, hy⟩
        show s.data.toList.length ≤ maxLen
        rw [Array.length_toList]
        exact hz1
    · intro i hi
      by_cases hin : i < L.length
      · rw [List.getElem_append_left hin]
        exact hc i hin
      · have hin' : i = L.length := by
          rw [List.length_append] at hi
          simp at hi
          omega
        subst hin'
        rw [List.getElem_append_right (Nat.le_refl _)]
        simp only [Nat.sub_self, List.getElem_cons_zero]
        rw [hl]
        exact ⟨c0, b, l, c, c1, hs⟩
theorem open_xs {P : Program} {α : Type} {Sl : Value → α → World → Prop} {Pr : α → Prop} {t e : TypeId} {f0 f1 : Field} {fuel : Nat} {v : Value} {x : DataW H × List MemPlace} (ht : P.underlying t = some (.slice e)) (he : P.underlying e = some (.struct #[f0, f1]))
    (ce : P.cellsOf e = 2) (o0 : f0.offset = 0) (o1 : f1.offset = 1) (c0 : P.cellsOf f0.type = 1) (c1 : P.cellsOf f1.type = 1) (hs : P.underlying f0.type = some .string)
    (hop : ∀ n u y, DataW.trod enc P w base spare held n f1.type [u] = some y → ∃ (b : Option Addr) (l c : Nat) (z : α), u = .slice b l c ∧ Sl u z w ∧ Pr z)
    (h : DataW.trod enc P w base spare held fuel t [v] = some x) :
    ∃ L : List (List UInt8 × α), XSl Sl v L w ∧ L.length ≤ maxLen ∧ ∀ t ∈ L, t.1.length ≤ maxLen ∧ Pr t.2 := by
  rcases open_slice_pairs ht he ce o0 o1 c0 c1 h with ⟨h0, _⟩ | ⟨a, len, cap, m, n, V0, V1, D0, D1, P0, P1, h0, hb, hl, hm, hmm, hx, hi⟩
  · injection h0 with h0
    exact ⟨[], Or.inl ⟨_, _, h0, rfl⟩, Nat.zero_le _, fun t h => by cases h⟩
  · injection h0 with h0
    have hlm : len ≤ m := by rw [hmm]; split <;> omega
    obtain ⟨L, hL, hz, hc⟩ := xs_of (Sl := Sl) (Pr := Pr) w a len (fun i hil => by
      obtain ⟨g0, g1, t0, t1⟩ := hi i (by omega)
      obtain ⟨s, e0, _, ws⟩ := DataW.trod_string hs t0
      obtain ⟨b, l, c, z, e1, hz, hp⟩ := hop _ _ _ t1
      injection e0 with e0
      rw [e0] at g0
      rw [e1] at g1 hz
      exact ⟨s, b, l, c, z, g0, g1, hz, ws, hp⟩)
    refine ⟨L, ?_, by omega, hz⟩
    by_cases h0l : L = []
    · rw [h0l] at hL
      refine Or.inl ⟨some a, cap, ?_, h0l⟩
      rw [h0, ← hL]; rfl
    · have hpos : 0 < L.length := List.length_pos_iff.2 h0l
      obtain ⟨ab, ao, asp⟩ := a
      have hspot : asp = none := by simpa [Addr.add] using World.cell?_spot (hc 0 hpos).1
      subst hspot
      have hadd : ∀ j, (⟨ab, ao, none⟩ : Addr).add j = ⟨ab, ao + j, none⟩ := by
        intro j
        unfold Addr.add
        split
        · rename_i hz; rw [hz]; rfl
        · rfl
      refine Or.inr ⟨ab, ao, cap, by rw [h0, hL], ?_, hpos⟩
      intro k hk
      obtain ⟨q0, b, l, c, q1, q2⟩ := hc k hk
      rw [hadd] at q0 q1
      exact ⟨q0, b, l, c, q1, q2⟩
theorem slice_form {P : Program} {t e : TypeId} {fuel : Nat} {u : Value} {x : DataW H × List MemPlace} (ht : P.underlying t = some (.slice e)) (h : DataW.trod enc P w base spare held fuel t [u] = some x) : ∃ (b : Option Addr) (l c : Nat), u = .slice b l c := by
  rcases open_slice ht h with ⟨h0, _⟩ | ⟨a, len, cap, m, n, D, Pl, h0, _⟩
  · injection h0 with h0
    exact ⟨_, _, _, h0⟩
  · injection h0 with h0
    exact ⟨_, _, _, h0⟩
/-- Cells' bounds. -/
def CelB (M : List Cel) : Prop := M.length ≤ maxLen ∧ ∀ t ∈ M, t.name.length ≤ maxLen ∧ t.text.length ≤ maxLen ∧ R t.num ∧ R t.many
def ArgB (A : List (List UInt8 × List Cel)) : Prop := A.length ≤ maxLen ∧ ∀ t ∈ A, t.1.length ≤ maxLen ∧ CelB t.2
theorem args_trod {fuel : Nat} {v : Value} {x : DataW H × List MemPlace} (h : DataW.trod enc Tryz.prog w base spare held fuel 26 [v] = some x) :
    ∃ L : List (List UInt8 × List Cel), ArgSl v L w ∧ ArgB L := by
  obtain ⟨L, h1, h2, h3⟩ := open_xs (Sl := CelSl) (Pr := CelB) Tryz.underlying26 Tryz.underlying65 (by kernel_rfl) rfl rfl (by kernel_rfl) (by kernel_rfl) Tryz.underlying9 (fun n u y hu => by
    obtain ⟨b, l, c, e⟩ := slice_form Tryz.underlying22 hu
    subst e
    obtain ⟨M, m1, m2⟩ := open_cells (v := .slice b l c) (d := y.1) (p := y.2) ⟨b, l, c, rfl⟩ ⟨n, hu⟩
    exact ⟨b, l, c, M, rfl, m1, m2⟩) h
  exact ⟨L, h1, h2, h3⟩
theorem open_args {v : Value} {d : DataW H} {p : List MemPlace} (hv : ∃ a l c, v = .slice a l c) (h : DataW.Trod enc Tryz.prog w base spare held 26 v d p) :
    ∃ L : List (List UInt8 × List Cel), ArgSl v L w ∧ ArgB L := by
  obtain ⟨fuel, hf⟩ := h
  obtain ⟨sa, sl, sc, rfl⟩ := hv
  exact args_trod hf
theorem open_dirs {v : Value} {d : DataW H} {p : List MemPlace} (hv : ∃ a l c, v = .slice a l c) (h : DataW.Trod enc Tryz.prog w base spare held 27 v d p) :
    ∃ L : List (List UInt8 × List (List UInt8 × List Cel)), DirSl v L w ∧ (L.length ≤ maxLen ∧ ∀ t ∈ L, t.1.length ≤ maxLen ∧ ArgB t.2) := by
  obtain ⟨fuel, hf⟩ := h
  obtain ⟨sa, sl, sc, rfl⟩ := hv
  obtain ⟨L, h1, h2, h3⟩ := open_xs (Sl := ArgSl) (Pr := ArgB) (v := .slice sa sl sc) Tryz.underlying27 Tryz.underlying61 (by kernel_rfl) rfl rfl (by kernel_rfl) (by kernel_rfl) Tryz.underlying9 (fun n u y hu => by
    obtain ⟨b, l, c, e⟩ := slice_form Tryz.underlying26 hu
    subst e
    obtain ⟨M, m1, m2⟩ := args_trod hu
    exact ⟨b, l, c, M, rfl, m1, m2⟩) hf
  exact ⟨L, h1, h2, h3⟩
end
end Go.Proofs.YtgaknbnhmoddcaaGreatDoor
namespace Go.Proofs.YtgaknbnhmoddcaaGreatDoor
open Go.RowKit Go.WideShapes Go.ChangeShapes Go.Joins Go.Deep
/-- Bytes in a row, read. -/
def BRow (b off : Nat) (L : List UInt8) (W : World) : Prop := ∀ (i : Nat) (h : i < L.length), W.cell? ⟨b, off + i, none⟩ = some (.int .u8 (L[i].toNat : Int))
def BSl (v : Value) (L : List UInt8) (W : World) : Prop := (∃ a cap, v = .slice a 0 cap ∧ L = []) ∨ ∃ b off cap, v = .slice (some ⟨b, off, none⟩) L.length cap ∧ BRow b off L W ∧ 0 < L.length
theorem BRow.below {b off : Nat} {L : List UInt8} {w w' : World} (h : BRow b off L w) (hb : Below w.heap.size w w') : BRow b off L w' := fun i hi => (hb.cell (p := ⟨b, _, none⟩) (lt_of_cell (h i hi))).trans (h i hi)
theorem addr_addB (b off j : Nat) : (⟨b, off, none⟩ : Addr).add j = ⟨b, off + j, none⟩ := by
  unfold Addr.add
  split
  · rename_i hz; rw [hz]; rfl
  · rfl
theorem BSl.below {v : Value} {L : List UInt8} {w w' : World} (h : BSl v L w) (hb : Below w.heap.size w w') : BSl v L w' := by
  rcases h with h | ⟨b, off, cap, h1, h2, h3⟩
  · exact Or.inl h
  · exact Or.inr ⟨b, off, cap, h1, h2.below hb, h3⟩
theorem BSl.form {v : Value} {L : List UInt8} {w : World} (h : BSl v L w) : ∃ a c, v = .slice a L.length c := by
  rcases h with ⟨a, cap, rfl, rfl⟩ | ⟨b, off, cap, rfl, h2, h3⟩
  · exact ⟨_, _, rfl⟩
  · exact ⟨_, _, rfl⟩
section
variable {H : Type} {enc : TypeId × Value → H} {w : World} {base : Nat} {spare : Nat → Bool} {held : Bool}
theorem bytes_of (w : World) (a : Addr) : ∀ n : Nat, (∀ i, i < n → ∃ k : UInt8, w.cell? (a.add i) = some (.int .u8 (k.toNat : Int))) →
    ∃ L : List UInt8, L.length = n ∧ ∀ (i : Nat) (h : i < L.length), w.cell? (a.add i) = some (.int .u8 (L[i].toNat : Int))
  | 0, _ => ⟨[], rfl, (fun i h => absurd h (by simp))⟩
  | n + 1, h => by
    obtain ⟨L, hl, hc⟩ := bytes_of w a n fun i hi => h i (by omega)
    obtain ⟨k, c0⟩ := h n (by omega)
    refine ⟨L ++ [k], by simp [hl], ?_⟩
    intro i hi
    by_cases hin : i < L.length
    · rw [List.getElem_append_left hin]
      exact hc i hin
    · have hin' : i = L.length := by
        rw [List.length_append] at hi
        simp at hi
        omega
      subst hin'
      rw [List.getElem_append_right (Nat.le_refl _)]
      simp only [Nat.sub_self, List.getElem_cons_zero]
      rw [hl]
      exact c0
theorem bytes_trod {fuel : Nat} {v : Value} {x : DataW H × List MemPlace} (h : DataW.trod enc Tryz.prog w base spare held fuel 23 [v] = some x) :
    ∃ L : List UInt8, BSl v L w ∧ L.length ≤ maxLen := by
  rcases open_slice1 Tryz.underlying23 (by kernel_rfl) h with ⟨h0, _⟩ | ⟨a, len, cap, m, n, V, D, Pl, h0, hb, hl, hm, hmm, hx, hi⟩
  · injection h0 with h0
    exact ⟨[], Or.inl ⟨_, _, h0, rfl⟩, Nat.zero_le _⟩
  · injection h0 with h0
    have hlm : len ≤ m := by rw [hmm]; split <;> omega
    obtain ⟨L, hL, hc⟩ := bytes_of w a len (fun i hil => by
      obtain ⟨g0, t0⟩ := hi i (by omega)
      obtain ⟨k, e0, _, wk⟩ := DataW.trod_int Tryz.underlying5 t0
      injection e0 with e0
      obtain ⟨k1, k2⟩ := Go.bounds_u8 wk
      have hk : ((UInt8.ofNat k.toNat).toNat : Int) = k := by
        rw [UInt8.toNat_ofNat']
        omega
      exact ⟨UInt8.ofNat k.toNat, by rw [g0, e0, hk]⟩)
    refine ⟨L, ?_, by omega⟩
    by_cases h0l : L = []
    · rw [h0l] at hL
      refine Or.inl ⟨some a, cap, ?_, h0l⟩
      rw [h0, ← hL]; rfl
    · have hpos : 0 < L.length := List.length_pos_iff.2 h0l
      obtain ⟨ab, ao, asp⟩ := a
      have hspot : asp = none := by simpa [Addr.add] using World.cell?_spot (hc 0 hpos)
      subst hspot
      exact Or.inr ⟨ab, ao, cap, by rw [h0, hL], fun i hi => by rw [← addr_addB]; exact hc i hi, hpos⟩
theorem cells_ref : Tryz.prog.cellsOf 25 = 2 := by kernel_rfl
end
end Go.Proofs.YtgaknbnhmoddcaaGreatDoor
namespace Go.Proofs.YtgaknbnhmoddcaaGreatDoor
open Go.RowKit
theorem OwnT.grow {B0 B : Nat} {v : Value} {L : List Tok} {W W' : World} (h : OwnT B v L W) (hg : W.grownBy W' v.ownBlock) (hB : B0 ≤ B) (hz : B0 ≤ W.heap.size) : Below B0 W W' := (Below.refl B0 W).grown hg hz (fun k hk => Nat.le_trans hB (h.lt k hk))
end Go.Proofs.YtgaknbnhmoddcaaGreatDoor
namespace Go.Proofs.YtgaknbnhmoddcaaGreatDoor
open Go.RowKit
theorem kindq_of (c : Cel) (k : Nat) (hk : k < 256) (h : c.kind.toNat = k) : c.kind = UInt8.ofNat k := by
  refine UInt8.toNat_inj.1 ?_
  rw [UInt8.toNat_ofNat', h]; omega
/-- A row of places, in a block. -/
def PB (a : Option Addr) (P : List Nat) (W : World) : Prop := 0 < P.length → ∃ g cur, a = some ⟨g, 0, none⟩ ∧ W.heap[g]? = some (.cells cur 3 (0, 0)) ∧ ∀ (i : Nat) (hi : i < P.length), cur[i]? = some (.int .i64 (P[i] : Int))
theorem OwnI.pb {B : Nat} {a : Option Addr} {n c : Nat} {P : List Nat} {W : World} (h : OwnI B (.slice a n c) P W) : PB a P W := by
  intro h0
  obtain ⟨h1, h2⟩ := h
  rcases h2 with ⟨_, h3⟩ | ⟨g, cap, cur, hv, hB, hg, hn, hc, hcs, ht⟩
  · omega
  · injection hv with e1 e2 e3
    refine ⟨g, cur, e1, hg, fun i hi => ?_⟩
    rw [Nat.mul_one] at ht
    have : (cur.toList.take P.length)[i]? = some (.int .i64 (P[i] : Int)) := by rw [ht]; unfold natCells; simp [hi]
    rw [List.getElem?_take] at this
    simpa [hi] using this
theorem PB.below {a : Option Addr} {P : List Nat} {W W' : World} (h : PB a P W) (hb : Below W.heap.size W W') : PB a P W' := fun h0 => by
  obtain ⟨g, cur, h1, h2, h3⟩ := h h0
  exact ⟨g, cur, h1, (hb.block g (heap_lt h2)).trans h2, h3⟩
theorem PB.grown {a : Option Addr} {P : List Nat} {W W' : World} {B : Nat} {v : Value} {L : List Tok} (h : PB a P W) (ho : OwnT B v L W) (hg : W.grownBy W' v.ownBlock) : PB a P W' := fun h0 => by
  obtain ⟨g, cur, h1, h2, h3⟩ := h h0
  refine ⟨g, cur, h1, (hg.block g (heap_lt h2) ?_).trans h2, h3⟩
  intro e
  rcases ho.2 with ⟨e1, _⟩ | ⟨g2, cap2, cur2, e1, _, hg2, _⟩
  · rw [e1] at e; cases e
  · rw [e1] at e
    injection e with e
    have e3 : g = g2 := e
    rw [e3, hg2] at h2
    injection h2 with h2
    injection h2 with _ h4 _
    exact absurd h4 (by decide)
theorem PB.cell {a : Option Addr} {P : List Nat} {W : World} (h : PB a P W) (i : Nat) (hi : i < P.length) : ∃ g, a = some ⟨g, 0, none⟩ ∧ W.cell? ⟨g, i, none⟩ = some (.int .i64 (P[i] : Int)) := by
  obtain ⟨g, cur, h1, h2, h3⟩ := h (by omega)
  exact ⟨g, h1, (Lib.cell_of_heap h2 i).trans (h3 i hi)⟩
set_option maxRecDepth 100000 in
set_option maxHeartbeats 4000000 in
theorem of_list (V : List Cel) (b off cap : Nat) (W : World) (k : Nat) (kk : Nat) (nx tx : ByteArray) (nu : Int) (m : Nat)
    (hk : k < V.length) (hl : V.length ≤ 2048)
    (c0 : W.cell? ⟨b, off + k * 5, none⟩ = some (.int .u8 (kk : Int))) (c1 : W.cell? ⟨b, off + k * 5 + 1, none⟩ = some (.string nx)) (c2 : W.cell? ⟨b, off + k * 5 + 2, none⟩ = some (.string tx)) (c3 : W.cell? ⟨b, off + k * 5 + 3, none⟩ = some (.int .i64 nu)) (c4 : W.cell? ⟨b, off + k * 5 + 4, none⟩ = some (.int .i64 (m : Int)))
    (t0 : ((kk : Int) == 0) = false) (t1 : ((kk : Int) == 1) = false) (t2 : ((kk : Int) == 2) = false) (t3 : ((kk : Int) == 3) = false) (t4 : ((kk : Int) == 4) = false) (t5 : ((kk : Int) == 5) = false) (t7 : ((kk : Int) == 7) = false)
    (hmx : (m : Int) ≤ 9223372036854775807) (HROW : Hid (CelRow b off V W)) (d1 n : Nat) (hkids : KS V d1 k true (some n) m [] 0) (P : List Nat) (hP : plcJ (valN d1) V m (k + 1) = P)
    (HU : Hid (∀ W' : World, CelRow b off V W' → Calls Tryz.prog 71 #[.slice (some ⟨b, off, none⟩) V.length cap, .int .i64 (k : Int)] W' fun e w' => ∃ v, e = .returned v ∧ OwnI W'.heap.size v P w' ∧ Below W'.heap.size W' w'))
    (HIH : Hid (∀ (W' : World) (p n1 : Nat), p < V.length → CelRow b off V W' → valN d1 (V.drop p) = some n1 → Calls Tryz.prog 37 #[.slice (some ⟨b, off, none⟩) V.length cap, .int .i64 (p : Int)] W' (OfS (tokK d1 (V.drop p)) W'))) :
    Calls Tryz.prog 37 #[.slice (some ⟨b, off, none⟩) V.length cap, .int .i64 (k : Int)] W (OfS (mkT [91] :: (kidsK (valN d1) (tokK d1) false m (V.drop (k + 1)) ++ [mkT [93]])) W) := by
  have HK0 := Lib.hid hkids
  have hPl : P.length = m := by rw [← hP, plcJ_len]
  have HP0 : Hid (plcJ (valN d1) V m (k + 1) = P.drop 0) := Lib.hid (by rw [hP, List.drop_zero])
  obtain ⟨R, hR⟩ : ∃ R, [mkT [91]] ++ kidsK (valN d1) (tokK d1) false m (V.drop (k + 1)) = R := ⟨_, rfl⟩
  have HR0 := Lib.hid hR
  have HRR : Hid (mkT [91] :: (kidsK (valN d1) (tokK d1) false m (V.drop (k + 1)) ++ [mkT [93]]) = R ++ [mkT [93]]) := Lib.hid (by rw [← hR]; simp)
  rw [HRR.out]
  have HPL := Lib.hid hPl
  clear hR hkids hP hPl
  go_enter Tryz.func37, Tryz.ntmps37
  go_upto_region 18 with fail
  obtain ⟨wb, hwb⟩ : ∃ wb, W.alloc (.cells #[.int .u8 (kk : Int), .string nx, .string tx, .int .i64 nu, .int .i64 (m : Int)] 63) = wb := ⟨_, rfl⟩
  have hc : wb.heap[W.heap.size]? = some (.cells #[.int .u8 (kk : Int), .string nx, .string tx, .int .i64 nu, .int .i64 (m : Int)] 63 (0, 0)) := by rw [← hwb]; exact heap_new W _ _ rfl
  have hbc : Below W.heap.size W wb := by rw [← hwb]; exact (Below.refl _ _).alloc (Nat.le_refl _) _
  have hbz : wb.heap.size = W.heap.size + 1 := by rw [← hwb]; simp
  rw [hwb]
  clear hwb c0 c1 c2 c3 c4
  have e0 : wb.cell? ⟨W.heap.size, 0, none⟩ = some (.int .u8 (kk : Int)) := by rw [Lib.cell_of_heap hc]; rfl
  go_wp2_with fail
  refine (rmark18 _ _).mono ?_; rintro e wm ⟨rfl, hbm⟩
  have hcm := (hbm.block _ (heap_lt hc)).trans hc
  have hbcm : Below W.heap.size W wm := hbc.trans (hbm.mono (by omega))
  have hmz : W.heap.size + 1 ≤ wm.heap.size := by have := hbm.size; omega
  clear hbm e0
  go_upto_region 19 with fail
  obtain ⟨wc, hwc⟩ : ∃ wc, wm.alloc (.cells #[.int .u8 4, .string ⟨#[91]⟩, .int .i64 0] 72) = wc := ⟨_, rfl⟩
  have hbd : Below wm.heap.size wm wc := by rw [← hwc]; exact (Below.refl _ _).alloc (Nat.le_refl _) _
  have HO0 : Hid (OwnT (W.heap.size + 1) (.slice (some ⟨wm.heap.size, 0, none⟩) 1 1) [mkT [91]] wc) := Lib.hid ((by rw [← hwc]; exact OwnT.one 4 4 rfl ⟨#[91]⟩ wm : OwnT wm.heap.size (.slice (some ⟨wm.heap.size, 0, none⟩) 1 1) [mkT [91]] wc).lessU hmz)
  rw [hwc]
  have HC : Hid (wc.heap[W.heap.size]? = some (.cells #[.int .u8 (kk : Int), .string nx, .string tx, .int .i64 nu, .int .i64 (m : Int)] 63 (0, 0))) := Lib.hid ((hbd.block _ (heap_lt hcm)).trans hcm)
  have HBC : Hid (Below W.heap.size W wc) := Lib.hid (hbcm.trans (hbd.mono (by omega)))
  have hcz : W.heap.size < wc.heap.size := heap_lt HC.out
  clear hwc hc hbc hbd hbz hcm hbcm hmz
  go_wp2_with fail
  refine (HU.out _ (HROW.out.below' HBC.out)).mono ?_; rintro e w1 ⟨v, rfl, hown, hb1⟩
  obtain ⟨a, cp, rfl, _⟩ := hown.form
  have HPB := Lib.hid hown.pb
  have HO1 := Lib.hid (HO0.out.below hb1)
  have HB1 : Hid (Below (W.heap.size + 1) wc w1) := Lib.hid (hb1.mono (by omega))
  rw [HPL.out]
  clear hown hb1
  go_wp2_with fail
  generalize hcb : W.heap.size = cb at *
  go_loopg [8, 10] m (fun gk ov ct wr => ∃ (j p u : Nat) (nm : List (List UInt8)) (out : List Tok) (ox : Value), ox = ov ∧ ct = .int .i64 j ∧ (gk + j ≤ m ∧ m ≤ gk + j) ∧ p ≤ V.length ∧ Hid (p = k + 1 + u) ∧ j ≤ u ∧ Hid (out.length ≤ 1 + 4 * u) ∧ Hid (KS V d1 k true (some n) gk nm u) ∧ Hid (out ++ kidsK (valN d1) (tokK d1) false gk (V.drop p) = R) ∧ Hid (plcJ (valN d1) V gk p = P.drop j) ∧ Hid (OwnT (cb + 1) ox out wr) ∧ Hid (Below (cb + 1) wc wr) ∧ Hid (PB a P wr))
  case atStart => exact ⟨0, k + 1, 0, [], [mkT [91]], _, rfl, by go_num, ⟨by omega, by omega⟩, by omega, Lib.hid rfl, Nat.le_refl _, Lib.hid (by simp), HK0, HR0, HP0, HO1, HB1, HPB⟩
  case round =>
    clear HO0 HO1 HB1 HPB HK0 HR0 HP0
    rename World => wr
    obtain ⟨j, p, u, nm, out, ox, rfl, rfl, ⟨hj, hj'⟩, hp, HPU, hju, HLEN, HKS, HRT, HPL2, HO, HB, HPB⟩ := hrel
    have hzr := HB.out.size
    have hbW : Hid (Below cb W wr) := Lib.hid (HBC.out.trans ((HB.out.mono (by omega))))
    have e0 : wr.cell? ⟨cb, 0, none⟩ = some (.int .u8 (kk : Int)) := by rw [Lib.cell_of_heap ((HB.out.block _ (by omega)).trans HC.out)]; rfl
    by_cases hg0 : gk = 0
    · subst hg0
      have hjn : ¬ j < m := by omega
      have hjn' : ¬ (j : Int) < (m : Int) := by omega
      have HF : Hid (out = R) := Lib.hid (by have := HRT.out; rw [show kidsK (valN d1) (tokK d1) false 0 (V.drop p) = [] from rfl, List.append_nil] at this; exact this)
      have HLEN2 : Hid (out.length + 1 ≤ 1000000) := Lib.hid (by have z1 := HLEN.out; have z2 := HPU.out; omega)
      clear hj hj' hju
      go_wp2_with fail
      refine (rmark18 _ _).mono ?_; rintro e w3 ⟨rfl, hb3⟩
      have HO3 := Lib.hid (HO.out.below hb3)
      have HBW3 : Hid (Below cb W w3) := Lib.hid (hbW.out.trans (hb3.mono (by omega)))
      have hz3 := hb3.size
      clear hb3
      go_wp2_with (at_builtin; refine wpList_appT rfl _ _ rfl (cb + 1) ox (.slice (some ⟨w3.heap.size, 0, none⟩) 1 1) out [mkT [93]] rfl (HO3.out.alloc (.cells _ 72)) rfl (OwnT.one 4 4 rfl ⟨#[93]⟩ w3).sl ?c1 ?c2 ?_)
      case c1 => exact HLEN2.out
      case c2 => simp; omega
      intro v' w7 ho hg
      have HB7 : Hid (Below cb W w7) := Lib.hid ((HBW3.out.alloc (by omega) _).trans (OwnT.grow (HO3.out.alloc _) hg (by omega) (by simp; omega)))
      have HO7 := Lib.hid ho
      clear ho hg
      go_wp2_with fail
      go_ret
      refine ⟨⟨_, rfl, ?_⟩, by rw [hcb]; exact HB7.out⟩
      rw [← HF.out, hcb]
      exact HO7.out.lessU (by omega)
    · obtain ⟨g1, rfl⟩ : ∃ g1, gk = g1 + 1 := ⟨gk - 1, by omega⟩
      have hjm : j < m := by omega
      have hjm' : (j : Int) < (m : Int) := by omega
      clear hg0
      obtain ⟨hpl, n1, hv1, hks⟩ := HKS.out.step HPU.out
      have hn1 := (valN_le _ _ _ hv1).1
      have hn2 := (valN_le _ _ _ hv1).2
      rw [List.length_drop] at hn2
      obtain ⟨hjP, hPj, hpn⟩ := plcJ_at HPL2.out
      rw [hv1, Option.getD_some] at hpn
      have HCJ : Hid (∀ W', PB a P W' → ∃ g, a = some ⟨g, 0, none⟩ ∧ W'.cell? ⟨g, j, none⟩ = some (.int .i64 (p : Int))) := Lib.hid fun W' h => by
        have := h.cell j hjP
        rw [hPj] at this
        exact this
      have htl := tokK_len d1 _ n1 hv1
      have hrr := HRT.out
      rw [kidsK, hv1, Option.getD_some, List.drop_drop] at hrr
      have HI : Hid (∀ W' : World, CelRow b off V W' → Calls Tryz.prog 37 #[.slice (some ⟨b, off, none⟩) V.length cap, .int .i64 (p : Int)] W' (OfS (tokK d1 (V.drop p)) W')) := Lib.hid fun W' h => HIH.out W' p n1 hpl h hv1
      have HCR := Lib.hid (HROW.out.below' (by rw [hcb]; exact hbW.out))
      obtain ⟨p2, hp2⟩ : ∃ p2, p + n1 = p2 := ⟨_, rfl⟩
      have HP2 : Hid (p2 = k + 1 + (u + n1)) := Lib.hid (by rw [← hp2, HPU.out]; omega)
      have hp3 : p2 ≤ V.length := by omega
      have HKS2 := Lib.hid hks
      rw [hp2] at hrr hpn
      have HPN := Lib.hid hpn
      obtain ⟨gb, rfl, hc0⟩ := HCJ.out wr HPB.out
      have hpre : preK false (V.drop p) = [] := rfl
      rw [hpre, List.nil_append] at hrr
      generalize tokK d1 (V.drop p) = tj at *
      have HRX : Hid ((out ++ tj) ++ kidsK (valN d1) (tokK d1) false g1 (V.drop p2) = R) := Lib.hid (by rw [← hrr]; simp)
      have HLX : Hid ((out ++ tj).length ≤ 1 + 4 * (u + n1)) := Lib.hid (by have z1 := HLEN.out; rw [List.length_append]; omega)
      have HLY : Hid (out.length + tj.length ≤ 1000000) := Lib.hid (by have z1 := HLEN.out; have z2 := HPU.out; omega)
      clear hks hv1 hpn hPj hjP hrr hpre htl
      go_wp2_with fail
      refine (HI.out wr HCR.out).mono ?_; rintro e w6 ⟨⟨v6, rfl, ho6⟩, hb6⟩
      have HO6 := Lib.hid (HO.out.below hb6)
      have HB6 : Hid (Below (cb + 1) wc w6) := Lib.hid (HB.out.trans (hb6.mono (by omega)))
      have HP6 := Lib.hid (HPB.out.below hb6)
      have HT6 := Lib.hid ho6
      have hz6 := hb6.size
      clear hb6 ho6
      go_wp2_with (at_builtin; refine wpList_appT rfl _ _ rfl (cb + 1) ox v6 out tj rfl HO6.out rfl HT6.out.sl ?c1 ?c2 ?_)
      case c1 => exact HLY.out
      case c2 => omega
      intro v7 w7 ho7 hg7
      have HB7 : Hid (Below (cb + 1) wc w7) := Lib.hid (HB6.out.trans (OwnT.grow HO6.out hg7 (Nat.le_refl _) (by omega)))
      have HP7 := Lib.hid (HP6.out.grown HO6.out hg7)
      have HO7 := Lib.hid ho7
      clear ho7 hg7
      go_wp2_with fail
      go_roundg g1
      case measure => omega
      case rel => exact ⟨j + 1, p2, u + n1, _, _, v7, rfl, by go_num, ⟨by omega, by omega⟩, hp3, HP2, by omega, HLX, HKS2, HRX, HPN, HO7, HB7, HP7⟩
set_option maxRecDepth 100000 in
set_option maxHeartbeats 4000000 in
theorem of_obj (V : List Cel) (b off cap : Nat) (W : World) (k : Nat) (kk : Nat) (nx tx : ByteArray) (nu : Int) (m : Nat)
    (hk : k < V.length) (hl : V.length ≤ 2048)
    (c0 : W.cell? ⟨b, off + k * 5, none⟩ = some (.int .u8 (kk : Int))) (c1 : W.cell? ⟨b, off + k * 5 + 1, none⟩ = some (.string nx)) (c2 : W.cell? ⟨b, off + k * 5 + 2, none⟩ = some (.string tx)) (c3 : W.cell? ⟨b, off + k * 5 + 3, none⟩ = some (.int .i64 nu)) (c4 : W.cell? ⟨b, off + k * 5 + 4, none⟩ = some (.int .i64 (m : Int)))
    (t0 : ((kk : Int) == 0) = false) (t1 : ((kk : Int) == 1) = false) (t2 : ((kk : Int) == 2) = false) (t3 : ((kk : Int) == 3) = false) (t4 : ((kk : Int) == 4) = false) (t5 : ((kk : Int) == 5) = false) (t7 : ((kk : Int) == 7) = true)
    (hmx : (m : Int) ≤ 9223372036854775807) (HROW : Hid (CelRow b off V W)) (d1 n : Nat) (hkids : KS V d1 k false (some n) m [] 0) (P : List Nat) (hP : plcJ (valN d1) V m (k + 1) = P)
    (HU : Hid (∀ W' : World, CelRow b off V W' → Calls Tryz.prog 71 #[.slice (some ⟨b, off, none⟩) V.length cap, .int .i64 (k : Int)] W' fun e w' => ∃ v, e = .returned v ∧ OwnI W'.heap.size v P w' ∧ Below W'.heap.size W' w'))
    (HIH : Hid (∀ (W' : World) (p n1 : Nat), p < V.length → CelRow b off V W' → valN d1 (V.drop p) = some n1 → Calls Tryz.prog 37 #[.slice (some ⟨b, off, none⟩) V.length cap, .int .i64 (p : Int)] W' (OfS (tokK d1 (V.drop p)) W'))) :
    Calls Tryz.prog 37 #[.slice (some ⟨b, off, none⟩) V.length cap, .int .i64 (k : Int)] W (OfS (mkT [123] :: (kidsK (valN d1) (tokK d1) true m (V.drop (k + 1)) ++ [mkT [125]])) W) := by
  have HK0 := Lib.hid hkids
  have hPl : P.length = m := by rw [← hP, plcJ_len]
  have HP0 : Hid (plcJ (valN d1) V m (k + 1) = P.drop 0) := Lib.hid (by rw [hP, List.drop_zero])
  obtain ⟨R, hR⟩ : ∃ R, [mkT [123]] ++ kidsK (valN d1) (tokK d1) true m (V.drop (k + 1)) = R := ⟨_, rfl⟩
  have HR0 := Lib.hid hR
  have HRR : Hid (mkT [123] :: (kidsK (valN d1) (tokK d1) true m (V.drop (k + 1)) ++ [mkT [125]]) = R ++ [mkT [125]]) := Lib.hid (by rw [← hR]; simp)
  rw [HRR.out]
  have HPL := Lib.hid hPl
  clear hR hkids hP hPl
  go_enter Tryz.func37, Tryz.ntmps37
  go_upto_region 18 with fail
  obtain ⟨wb, hwb⟩ : ∃ wb, W.alloc (.cells #[.int .u8 (kk : Int), .string nx, .string tx, .int .i64 nu, .int .i64 (m : Int)] 63) = wb := ⟨_, rfl⟩
  have hc : wb.heap[W.heap.size]? = some (.cells #[.int .u8 (kk : Int), .string nx, .string tx, .int .i64 nu, .int .i64 (m : Int)] 63 (0, 0)) := by rw [← hwb]; exact heap_new W _ _ rfl
  have hbc : Below W.heap.size W wb := by rw [← hwb]; exact (Below.refl _ _).alloc (Nat.le_refl _) _
  have hbz : wb.heap.size = W.heap.size + 1 := by rw [← hwb]; simp
  rw [hwb]
  clear hwb c0 c1 c2 c3 c4
  have e0 : wb.cell? ⟨W.heap.size, 0, none⟩ = some (.int .u8 (kk : Int)) := by rw [Lib.cell_of_heap hc]; rfl
  go_wp2_with fail
  refine (rmark18 _ _).mono ?_; rintro e wm ⟨rfl, hbm⟩
  have hcm := (hbm.block _ (heap_lt hc)).trans hc
  have hbcm : Below W.heap.size W wm := hbc.trans (hbm.mono (by omega))
  have hmz : W.heap.size + 1 ≤ wm.heap.size := by have := hbm.size; omega
  clear hbm e0
  go_upto_region 19 with fail
  obtain ⟨wc, hwc⟩ : ∃ wc, wm.alloc (.cells #[.int .u8 4, .string ⟨#[123]⟩, .int .i64 0] 72) = wc := ⟨_, rfl⟩
  have hbd : Below wm.heap.size wm wc := by rw [← hwc]; exact (Below.refl _ _).alloc (Nat.le_refl _) _
  have HO0 : Hid (OwnT (W.heap.size + 1) (.slice (some ⟨wm.heap.size, 0, none⟩) 1 1) [mkT [123]] wc) := Lib.hid ((by rw [← hwc]; exact OwnT.one 4 4 rfl ⟨#[123]⟩ wm : OwnT wm.heap.size (.slice (some ⟨wm.heap.size, 0, none⟩) 1 1) [mkT [123]] wc).lessU hmz)
  rw [hwc]
  have HC : Hid (wc.heap[W.heap.size]? = some (.cells #[.int .u8 (kk : Int), .string nx, .string tx, .int .i64 nu, .int .i64 (m : Int)] 63 (0, 0))) := Lib.hid ((hbd.block _ (heap_lt hcm)).trans hcm)
  have HBC : Hid (Below W.heap.size W wc) := Lib.hid (hbcm.trans (hbd.mono (by omega)))
  have hcz : W.heap.size < wc.heap.size := heap_lt HC.out
  clear hwc hc hbc hbd hbz hcm hbcm hmz
  go_wp2_with fail
  refine (HU.out _ (HROW.out.below' HBC.out)).mono ?_; rintro e w1 ⟨v, rfl, hown, hb1⟩
  obtain ⟨a, cp, rfl, _⟩ := hown.form
  have HPB := Lib.hid hown.pb
  have HO1 := Lib.hid (HO0.out.below hb1)
  have HB1 : Hid (Below (W.heap.size + 1) wc w1) := Lib.hid (hb1.mono (by omega))
  rw [HPL.out]
  clear hown hb1
  go_wp2_with fail
  generalize hcb : W.heap.size = cb at *
  go_loopg [8, 10] m (fun gk ov ct wr => ∃ (j p u : Nat) (nm : List (List UInt8)) (out : List Tok) (ox : Value), ox = ov ∧ ct = .int .i64 j ∧ (gk + j ≤ m ∧ m ≤ gk + j) ∧ p ≤ V.length ∧ Hid (p = k + 1 + u) ∧ j ≤ u ∧ Hid (out.length ≤ 1 + 4 * u) ∧ Hid (KS V d1 k false (some n) gk nm u) ∧ Hid (out ++ kidsK (valN d1) (tokK d1) true gk (V.drop p) = R) ∧ Hid (plcJ (valN d1) V gk p = P.drop j) ∧ Hid (OwnT (cb + 1) ox out wr) ∧ Hid (Below (cb + 1) wc wr) ∧ Hid (PB a P wr))
  case atStart => exact ⟨0, k + 1, 0, [], [mkT [123]], _, rfl, by go_num, ⟨by omega, by omega⟩, by omega, Lib.hid rfl, Nat.le_refl _, Lib.hid (by simp), HK0, HR0, HP0, HO1, HB1, HPB⟩
  case round =>
    clear HO0 HO1 HB1 HPB HK0 HR0 HP0
    rename World => wr
    obtain ⟨j, p, u, nm, out, ox, rfl, rfl, ⟨hj, hj'⟩, hp, HPU, hju, HLEN, HKS, HRT, HPL2, HO, HB, HPB⟩ := hrel
    have hzr := HB.out.size
    have hbW : Hid (Below cb W wr) := Lib.hid (HBC.out.trans ((HB.out.mono (by omega))))
    have e0 : wr.cell? ⟨cb, 0, none⟩ = some (.int .u8 (kk : Int)) := by rw [Lib.cell_of_heap ((HB.out.block _ (by omega)).trans HC.out)]; rfl
    by_cases hg0 : gk = 0
    · subst hg0
      have hjn : ¬ j < m := by omega
      have hjn' : ¬ (j : Int) < (m : Int) := by omega
      have HF : Hid (out = R) := Lib.hid (by have := HRT.out; rw [show kidsK (valN d1) (tokK d1) true 0 (V.drop p) = [] from rfl, List.append_nil] at this; exact this)
      have HLEN2 : Hid (out.length + 1 ≤ 1000000) := Lib.hid (by have z1 := HLEN.out; have z2 := HPU.out; omega)
      clear hj hj' hju
      go_wp2_with fail
      refine (rmark18 _ _).mono ?_; rintro e w3 ⟨rfl, hb3⟩
      have HO3 := Lib.hid (HO.out.below hb3)
      have HBW3 : Hid (Below cb W w3) := Lib.hid (hbW.out.trans (hb3.mono (by omega)))
      have hz3 := hb3.size
      clear hb3
      go_wp2_with (at_builtin; refine wpList_appT rfl _ _ rfl (cb + 1) ox (.slice (some ⟨w3.heap.size, 0, none⟩) 1 1) out [mkT [125]] rfl (HO3.out.alloc (.cells _ 72)) rfl (OwnT.one 4 4 rfl ⟨#[125]⟩ w3).sl ?c1 ?c2 ?_)
      case c1 => exact HLEN2.out
      case c2 => simp; omega
      intro v' w7 ho hg
      have HB7 : Hid (Below cb W w7) := Lib.hid ((HBW3.out.alloc (by omega) _).trans (OwnT.grow (HO3.out.alloc _) hg (by omega) (by simp; omega)))
      have HO7 := Lib.hid ho
      clear ho hg
      go_wp2_with fail
      go_ret
      refine ⟨⟨_, rfl, ?_⟩, by rw [hcb]; exact HB7.out⟩
      rw [← HF.out, hcb]
      exact HO7.out.lessU (by omega)
    · obtain ⟨g1, rfl⟩ : ∃ g1, gk = g1 + 1 := ⟨gk - 1, by omega⟩
      have hjm : j < m := by omega
      have hjm' : (j : Int) < (m : Int) := by omega
      clear hg0
      obtain ⟨hpl, n1, hv1, hks⟩ := HKS.out.step HPU.out
      have hn1 := (valN_le _ _ _ hv1).1
      have hn2 := (valN_le _ _ _ hv1).2
      rw [List.length_drop] at hn2
      obtain ⟨hjP, hPj, hpn⟩ := plcJ_at HPL2.out
      rw [hv1, Option.getD_some] at hpn
      have HCJ : Hid (∀ W', PB a P W' → ∃ g, a = some ⟨g, 0, none⟩ ∧ W'.cell? ⟨g, j, none⟩ = some (.int .i64 (p : Int))) := Lib.hid fun W' h => by
        have := h.cell j hjP
        rw [hPj] at this
        exact this
      have htl := tokK_len d1 _ n1 hv1
      have hrr := HRT.out
      rw [kidsK, hv1, Option.getD_some, List.drop_drop] at hrr
      have HI : Hid (∀ W' : World, CelRow b off V W' → Calls Tryz.prog 37 #[.slice (some ⟨b, off, none⟩) V.length cap, .int .i64 (p : Int)] W' (OfS (tokK d1 (V.drop p)) W')) := Lib.hid fun W' h => HIH.out W' p n1 hpl h hv1
      have HCR := Lib.hid (HROW.out.below' (by rw [hcb]; exact hbW.out))
      obtain ⟨p2, hp2⟩ : ∃ p2, p + n1 = p2 := ⟨_, rfl⟩
      have HP2 : Hid (p2 = k + 1 + (u + n1)) := Lib.hid (by rw [← hp2, HPU.out]; omega)
      have hp3 : p2 ≤ V.length := by omega
      have HKS2 := Lib.hid hks
      rw [hp2] at hrr hpn
      have HPN := Lib.hid hpn
      obtain ⟨gb, rfl, hc0⟩ := HCJ.out wr HPB.out
      have hhd : ((V.drop p).headD ⟨0, [], [], 0, 0⟩).name = V[p].name := by rw [List.drop_eq_getElem_cons hpl]; rfl
      have hpre : preK true (V.drop p) = [nmT V[p].name, mkT [58]] := by unfold preK; rw [hhd, if_pos rfl]
      rw [hpre] at hrr
      obtain ⟨_, r1, _⟩ := HCR.out p hpl
      obtain ⟨xn, hxn⟩ : ∃ xn : ByteArray, (⟨V[p].name.toArray⟩ : ByteArray) = xn := ⟨_, rfl⟩
      have hxl : V[p].name = xn.data.toList := by rw [← hxn]
      rw [hxn] at r1
      rw [hxl] at hrr
      generalize tokK d1 (V.drop p) = tj at *
      have HRX : Hid (((out ++ [nmT xn.data.toList, mkT [58]]) ++ tj) ++ kidsK (valN d1) (tokK d1) true g1 (V.drop p2) = R) := Lib.hid (by rw [← hrr]; simp)
      have HLX : Hid (((out ++ [nmT xn.data.toList, mkT [58]]) ++ tj).length ≤ 1 + 4 * (u + n1)) := Lib.hid (by have z1 := HLEN.out; simp only [List.length_append, List.length_cons, List.length_nil]; omega)
      have HLY : Hid (out.length + 2 ≤ 1000000 ∧ (out ++ [nmT xn.data.toList, mkT [58]]).length + tj.length ≤ 1000000) := Lib.hid (by have z1 := HLEN.out; have z2 := HPU.out; simp only [List.length_append, List.length_cons, List.length_nil]; omega)
      clear hks hv1 hpn hPj hjP hrr hpre htl hhd hxn hxl
      go_wp2_with fail
      refine (rname18 _ _).mono ?_; rintro e w3 ⟨rfl, hb3⟩
      go_wp2_with fail
      refine (rmark18 _ _).mono ?_; rintro e w3b ⟨rfl, hb3b⟩
      have hbr : Below wr.heap.size wr w3b := hb3.trans (hb3b.mono hb3.size)
      have HO3 := Lib.hid (HO.out.below hbr)
      have HB3 : Hid (Below (cb + 1) wc w3b) := Lib.hid (HB.out.trans (hbr.mono (by omega)))
      have HP3 := Lib.hid (HPB.out.below hbr)
      have hz3 := hbr.size
      clear hb3 hb3b hbr
      go_wp2_with (at_builtin; refine wpList_appT rfl _ _ rfl (cb + 1) ox (.slice (some ⟨w3b.heap.size, 0, none⟩) 2 2) out [nmT xn.data.toList, mkT [58]] rfl (HO3.out.alloc (.cells _ 72)) rfl (OwnT.two 1 1 rfl xn 4 4 rfl ⟨#[58]⟩ w3b).sl ?c1 ?c2 ?_)
      case c1 => exact HLY.out.1
      case c2 => simp; omega
      intro v4 w4 ho4 hg4
      have hbr : Below w3b.heap.size w3b (w3b.alloc (.cells #[.int .u8 1, .string xn, .int .i64 0, .int .u8 4, .string ⟨#[58]⟩, .int .i64 0] 72)) := (Below.refl _ _).alloc (Nat.le_refl _) _
      have HB4 : Hid (Below (cb + 1) wc w4) := Lib.hid ((HB3.out.trans (hbr.mono (by omega))).trans (OwnT.grow (HO3.out.alloc _) hg4 (Nat.le_refl _) (by simp; omega)))
      have HP4 := Lib.hid ((HP3.out.below hbr).grown (HO3.out.alloc _) hg4)
      have HO4 := Lib.hid ho4
      have hz4 := HB4.out.size
      have HCR4 := Lib.hid (HROW.out.below' (w' := w4) (by rw [hcb]; exact HBC.out.trans (HB4.out.mono (by omega))))
      clear ho4 hg4 hbr hc0 r1 e0
      obtain ⟨gb2, hgb, hc4⟩ := HCJ.out w4 HP4.out
      injection hgb with hgb
      injection hgb with hgb
      subst hgb
      go_wp2_with fail
      refine (HI.out w4 HCR4.out).mono ?_; rintro e w6 ⟨⟨v6, rfl, ho6⟩, hb6⟩
      have HO6 := Lib.hid (HO4.out.below hb6)
      have HB6 : Hid (Below (cb + 1) wc w6) := Lib.hid (HB4.out.trans (hb6.mono (by omega)))
      have HP6 := Lib.hid (HP4.out.below hb6)
      have HT6 := Lib.hid ho6
      have hz6 := hb6.size
      clear hb6 ho6
      go_wp2_with (at_builtin; refine wpList_appT rfl _ _ rfl (cb + 1) v4 v6 _ tj rfl HO6.out rfl HT6.out.sl ?c1 ?c2 ?_)
      case c1 => exact HLY.out.2
      case c2 => omega
      intro v7 w7 ho7 hg7
      have HB7 : Hid (Below (cb + 1) wc w7) := Lib.hid (HB6.out.trans (OwnT.grow HO6.out hg7 (Nat.le_refl _) (by omega)))
      have HP7 := Lib.hid (HP6.out.grown HO6.out hg7)
      have HO7 : Hid (OwnT (cb + 1) v7 ((out ++ [nmT xn.data.toList, mkT [58]]) ++ tj) w7) := Lib.hid (by rw [List.append_assoc]; exact ho7)
      clear ho7 hg7
      go_wp2_with fail
      go_roundg g1
      case measure => omega
      case rel => exact ⟨j + 1, p2, u + n1, _, (out ++ [nmT xn.data.toList, mkT [58]]) ++ tj, v7, rfl, by go_num, ⟨by omega, by omega⟩, hp3, HP2, by omega, HLX, HKS2, HRX, HPN, HO7, HB7, HP7⟩
set_option maxRecDepth 100000 in
set_option maxHeartbeats 2000000 in
theorem of_case (V : List Cel) (b off cap : Nat) (hs : SmallV V) (hl : V.length ≤ 2048)
    (d : Nat) (hd : d ≤ 16) (W : World) (hrow : CelRow b off V W) (k n : Nat) (hk : k < V.length) (hv : valN d (V.drop k) = some n)
    (HIH : ∀ d1, d = d1 + 1 → Hid (∀ (W' : World) (p n1 : Nat), p < V.length → CelRow b off V W' → valN d1 (V.drop p) = some n1 → Calls Tryz.prog 37 #[.slice (some ⟨b, off, none⟩) V.length cap, .int .i64 (p : Int)] W' (OfS (tokK d1 (V.drop p)) W'))) :
    Calls Tryz.prog 37 #[.slice (some ⟨b, off, none⟩) V.length cap, .int .i64 (k : Int)] W (OfS (tokK d (V.drop k)) W) := by
  obtain ⟨c0, c1, c2, c3, c4⟩ := hrow k hk
  obtain ⟨s1, s2, s3, s4⟩ := hs.2 V[k] (List.getElem_mem _)
  have hval := valN_drop V k d hk
  rw [hv] at hval
  have hnest := nest_kind V[k]
  have hone := one_kind V[k]
  have hkl := UInt8.toNat_lt V[k].kind
  have ho : oneC V[k] = true := by
    cases h : oneC V[k] with
    | true => rfl
    | false => rw [h] at hval; cases hval
  rw [ho, if_pos rfl] at hval
  rw [ho] at hone
  have h7 : V[k].kind.toNat ≤ 7 := by
    have := hone.symm
    simp only [Bool.and_eq_true, decide_eq_true_eq] at this
    exact this.1
  have hdrop := List.drop_eq_getElem_cons hk
  have hlit : nestC V[k] = false → tokK d (V.drop k) = litK V[k] := by
    intro h
    rw [hdrop]
    cases d with
    | zero => rw [tokK_zero, headK_cons, h]; rfl
    | succ d => rw [tokK_more, headK_cons, h]; rfl
  have bl : ∀ l : List UInt8, (⟨l.toArray⟩ : ByteArray).data.toList = l := fun l => by simp
  have h8 : V[k].kind.toNat = 0 ∨ V[k].kind.toNat = 1 ∨ V[k].kind.toNat = 2 ∨ V[k].kind.toNat = 3 ∨ V[k].kind.toNat = 4 ∨ V[k].kind.toNat = 5 ∨ V[k].kind.toNat = 6 ∨ V[k].kind.toNat = 7 := by omega
  rcases h8 with h | h | h | h | h | h | h | h
  · have e1 := hlit (by rw [hnest, h]; rfl)
    have hk0 := kindq_of V[k] 0 (by omega) h
    rw [e1]
    have : litK V[k] = [nmT [110, 117, 108, 108]] := by unfold litK; rw [hk0]; rfl
    rw [this]
    exact of_null V b off cap W k _ _ _ _ _ hk hl c0 c1 c2 c3 c4 h
  · have e1 := hlit (by rw [hnest, h]; rfl)
    have hk0 := kindq_of V[k] 1 (by omega) h
    rw [e1]
    have hnum : V[k].num = 0 ∨ V[k].num = 1 := by
      rw [h] at hone
      have := hone.symm
      simp only [Bool.and_eq_true] at this
      have h2 := this.2.1.2
      unfold cnum at h2
      simpa using h2
    rcases hnum with hn0 | hn1
    · have : litK V[k] = [nmT [102, 97, 108, 115, 101]] := by unfold litK; rw [hk0, hn0]; rfl
      rw [this]
      exact of_false V b off cap W k _ _ _ _ _ hk hl c0 c1 c2 c3 c4 h hn0
    · have : litK V[k] = [nmT [116, 114, 117, 101]] := by unfold litK; rw [hk0, hn1]; rfl
      rw [this]
      exact of_true V b off cap W k _ _ _ _ _ hk hl c0 c1 c2 c3 c4 h hn1
  · have e1 := hlit (by rw [hnest, h]; rfl)
    have hk0 := kindq_of V[k] 2 (by omega) h
    rw [e1]
    have : litK V[k] = [⟨2, (⟨(Lib.itoa V[k].num).toArray⟩ : ByteArray).data.toList, 0⟩] := by unfold litK; rw [hk0, bl]; rfl
    rw [this]
    exact of_int V b off cap W k _ _ _ _ _ hk hl c0 c1 c2 c3 c4 h _ (Lib.hid fun W' => (rwrite_any V[k].num s3 W').mono fun e w' ⟨h1, h2⟩ => ⟨h1, by subst h2; exact Below.refl _ _⟩)
  · have e1 := hlit (by rw [hnest, h]; rfl)
    have hk0 := kindq_of V[k] 3 (by omega) h
    rw [e1]
    have : litK V[k] = [⟨3, (⟨V[k].text.toArray⟩ : ByteArray).data.toList, 0⟩] := by unfold litK; rw [hk0, bl]; rfl
    rw [this]
    exact of_text V b off cap W k _ _ _ _ _ hk hl c0 c1 c2 c3 c4 h
  · have e1 := hlit (by rw [hnest, h]; rfl)
    have hk0 := kindq_of V[k] 4 (by omega) h
    rw [e1]
    have : litK V[k] = [nmT (⟨V[k].text.toArray⟩ : ByteArray).data.toList] := by unfold litK; rw [hk0, bl]; rfl
    rw [this]
    exact of_enum V b off cap W k _ _ _ _ _ hk hl c0 c1 c2 c3 c4 h
  · have e1 := hlit (by rw [hnest, h]; rfl)
    have hk0 := kindq_of V[k] 5 (by omega) h
    rw [e1]
    have : litK V[k] = [mkT [36], nmT (⟨V[k].text.toArray⟩ : ByteArray).data.toList] := by unfold litK; rw [hk0, bl]; rfl
    rw [this]
    exact of_var V b off cap W k _ _ _ _ _ hk hl c0 c1 c2 c3 c4 h
  all_goals
    have hcn : cnest V[k].kind.toNat = true := by rw [h]; rfl
    rw [hnest, hcn, if_pos rfl] at hval
    cases d with
    | zero => cases hval
    | succ d1 =>
      dsimp only at hval
      obtain ⟨n', hn', hnn⟩ := Option.map_eq_some_iff.1 hval.symm
      have hm : 0 ≤ V[k].many := by
        have := hone.symm
        rw [hcn] at this
        simp only [Bool.and_eq_true, if_pos rfl, decide_eq_true_eq] at this
        simpa using this.2.2
      obtain ⟨m, hm2⟩ := Int.eq_ofNat_of_zero_le hm
      have hmt : V[k].many.toNat = m := by rw [hm2]; rfl
      have hmx : (m : Int) ≤ 9223372036854775807 := by rw [← hm2]; exact s4.2
      rw [hmt] at hn'
      have htext : tokK (d1 + 1) (V.drop k) = mkT (if V[k].kind == 6 then [91] else [123]) :: (kidsK (valN d1) (tokK d1) (!(V[k].kind == 6)) m (V.drop (k + 1)) ++ [mkT (if V[k].kind == 6 then [93] else [125])]) := by
        rw [hdrop, tokK_more, headK_cons, hnest, hcn, if_pos rfl, hmt]; rfl
      have hks := KS.start hn'
      have HU : Hid (∀ W' : World, CelRow b off V W' → Calls Tryz.prog 71 #[.slice (some ⟨b, off, none⟩) V.length cap, .int .i64 (k : Int)] W' fun e w' => ∃ v, e = .returned v ∧ OwnI W'.heap.size v (plcJ (valN d1) V m (k + 1)) w' ∧ Below W'.heap.size W' w') := Lib.hid fun W' hW => by
        obtain ⟨e0, e1, e2, e3, e4⟩ := hW k hk
        rw [hm2] at e4
        exact runder_any V b off cap W' k _ _ _ _ m hk hl e0 e1 e2 e3 e4 hmx (Lib.hid hW) d1 n' (by omega) _ hks (Lib.hid fun W2 p hp hr => rbehind_walk V b off cap hs 16 (Nat.le_refl _) W2 p hp hr)
      rw [hm2] at c4
      rw [htext]
      first
        | (have hk6 : (V[k].kind == 6) = true := beq_iff_eq.2 (kindq_of V[k] 6 (by omega) h)
           rw [hk6] at hks ⊢
           rw [if_pos rfl, if_pos rfl, Bool.not_true]
           exact of_list V b off cap W k _ _ _ _ m hk hl c0 c1 c2 c3 c4 (by rw [h]; rfl) (by rw [h]; rfl) (by rw [h]; rfl) (by rw [h]; rfl) (by rw [h]; rfl) (by rw [h]; rfl) (by rw [h]; rfl) hmx (Lib.hid hrow) d1 n' hks _ rfl HU (HIH d1 rfl))
        | (have hk6 : (V[k].kind == 6) = false := beq_eq_false_iff_ne.2 fun e => by rw [e] at h; exact absurd h (by decide)
           rw [hk6] at hks ⊢
           rw [if_neg Bool.false_ne_true, if_neg Bool.false_ne_true, Bool.not_false]
           exact of_obj V b off cap W k _ _ _ _ m hk hl c0 c1 c2 c3 c4 (by rw [h]; rfl) (by rw [h]; rfl) (by rw [h]; rfl) (by rw [h]; rfl) (by rw [h]; rfl) (by rw [h]; rfl) (by rw [h]; rfl) hmx (Lib.hid hrow) d1 n' hks _ rfl HU (HIH d1 rfl))
theorem of_walk (V : List Cel) (b off cap : Nat) (hs : SmallV V) (hl : V.length ≤ 2048) :
    ∀ (d : Nat), d ≤ 16 → ∀ (W : World) (k n : Nat), k < V.length → CelRow b off V W → valN d (V.drop k) = some n →
    Calls Tryz.prog 37 #[.slice (some ⟨b, off, none⟩) V.length cap, .int .i64 (k : Int)] W (OfS (tokK d (V.drop k)) W) := by
  intro d
  induction d with
  | zero => intro hd W k n hk hr hv; exact of_case V b off cap hs hl 0 hd W hr k n hk hv (fun d1 h => by omega)
  | succ d ih =>
    intro hd W k n hk hr hv
    refine of_case V b off cap hs hl (d + 1) hd W hr k n hk hv (fun d1 h => ?_)
    obtain rfl : d = d1 := by omega
    exact Lib.hid fun W' p n1 h1 h2 h3 => ih (by omega) W' p n1 h1 h2 h3
end Go.Proofs.YtgaknbnhmoddcaaGreatDoor
namespace Go.Proofs.YtgaknbnhmoddcaaGreatDoor
open Go.RowKit
def okC (c : Cel) : Bool := (c.name.isEmpty || nameB c.name) && !(c.kind == 4 && wordsK.contains c.text)
set_option maxRecDepth 100000 in
set_option maxHeartbeats 4000000 in
theorem mayval_go (V : List Cel) (b off cap : Nat) (hl : V.length ≤ 100000) (hs : ∀ c ∈ V, c.name.length ≤ 100000) (w : World) (hr : CelRow b off V w)
    (HM : Hid (∀ W, Below w.heap.size w W → Calls Tryz.prog 67 #[.slice (some ⟨b, off, none⟩) V.length cap] W fun e w' => e = .returned (.bool (mayB V)) ∧ Below W.heap.size W w')) :
    Calls Tryz.prog 36 #[.slice (some ⟨b, off, none⟩) V.length cap] w fun e w' => e = .returned (.bool (litB V)) ∧ Below w.heap.size w w' := by
  have HR := Lib.hid hr
  have HS := Lib.hid hs
  obtain ⟨Z, hZ⟩ : ∃ Z, litB V = Z := ⟨_, rfl⟩
  have HZ0 : Hid ((mayB V && (V.drop 0).all okC) = Z) := Lib.hid hZ
  rw [hZ]
  generalize mayB V = mb at *
  obtain ⟨n, hn⟩ : ∃ n, V.length = n := ⟨_, rfl⟩
  have HN := Lib.hid hn
  rw [hn] at HM hl ⊢
  clear hr hs hZ hn
  go_enter Tryz.func36, Tryz.ntmps36
  go_wp2_with fail
  go_loopg [3] n (fun gk iv wr => ∃ i : Nat, iv = .int .i64 (i : Int) ∧ (gk + i ≤ n ∧ n ≤ gk + i) ∧ Hid ((mb && (V.drop i).all okC) = Z) ∧ Hid (Below w.heap.size w wr))
  case atStart => exact ⟨0, by go_num, ⟨by omega, by omega⟩, HZ0, Lib.hid (Below.refl _ _)⟩
  case round =>
    clear HZ0
    rename World => wr
    obtain ⟨i, rfl, ⟨hj, hj'⟩, HQ, HB⟩ := hrel
    by_cases hg0 : gk = 0
    · subst hg0
      have hlt : ¬ (i : Int) < (n : Int) := by omega
      have HF : Hid (mb = Z) := Lib.hid (by
        have := HQ.out
        rw [List.drop_of_length_le (by have := HN.out; omega)] at this
        simpa using this)
      clear hj hj'
      go_wp2_with fail
      refine (HM.out wr HB.out).mono ?_; rintro e w2 ⟨rfl, hb⟩
      have HB2 : Hid (Below w.heap.size w w2) := Lib.hid (HB.out.trans (hb.mono HB.out.size))
      clear hb
      go_wp2_with fail
      go_ret
      exact ⟨ret_b HF.out, HB2.out⟩
    · obtain ⟨g1, rfl⟩ : ∃ g1, gk = g1 + 1 := ⟨gk - 1, by omega⟩
      have hil : i < V.length := by have := HN.out; omega
      obtain ⟨q0, q1, q2, q3, q4⟩ := HR.out i hil
      have hbl := lt_of_cell q0
      have hb' := HB.out
      have r0 := (hb'.cell (p := ⟨b, _, none⟩) hbl).trans q0
      have r1 := (hb'.cell (p := ⟨b, _, none⟩) hbl).trans q1
      have r2 := (hb'.cell (p := ⟨b, _, none⟩) hbl).trans q2
      have r3 := (hb'.cell (p := ⟨b, _, none⟩) hbl).trans q3
      have r4 := (hb'.cell (p := ⟨b, _, none⟩) hbl).trans q4
      have hsz := HS.out V[i] (List.getElem_mem hil)
      have hq := HQ.out
      rw [List.drop_eq_getElem_cons hil, List.all_cons] at hq
      obtain ⟨bad, hbad⟩ : ∃ bad, okC (V[i]'hil) = !bad := ⟨!okC (V[i]'hil), by simp⟩
      rw [hbad] at hq
      unfold okC at hbad
      generalize V[i]'hil = c at *
      obtain ⟨kd, hkd⟩ : ∃ kd : Int, (c.kind.toNat : Int) = kd := ⟨_, rfl⟩
      obtain ⟨nx, hnx⟩ : ∃ nx : ByteArray, (⟨c.name.toArray⟩ : ByteArray) = nx := ⟨_, rfl⟩
      obtain ⟨tx, htx⟩ : ∃ tx : ByteArray, (⟨c.text.toArray⟩ : ByteArray) = tx := ⟨_, rfl⟩
      have hnl : c.name = nx.data.toList := by rw [← hnx]
      have htl : c.text = tx.data.toList := by rw [← htx]
      have hnz : nx.size ≤ 1000000 := by rw [← bsz, ← hnl]; omega
      rw [hkd] at r0
      rw [hnx] at r1
      rw [htx] at r2
      rw [hnl, htl, ← ByteArray.toList_eq, ← ByteArray.toList_eq] at hbad
      obtain ⟨ne, hne⟩ : ∃ ne, nx.toList.isEmpty = ne := ⟨_, rfl⟩
      obtain ⟨nb, hnb⟩ : ∃ nb, nameB nx.data.toList = nb := ⟨_, rfl⟩
      obtain ⟨k4, hk4⟩ : ∃ k4, (c.kind == 4) = k4 := ⟨_, rfl⟩
      obtain ⟨s1, h1⟩ : ∃ s1, (tx.toList == [110, 117, 108, 108]) = s1 := ⟨_, rfl⟩
      obtain ⟨s2, h2⟩ : ∃ s2, (tx.toList == [116, 114, 117, 101]) = s2 := ⟨_, rfl⟩
      obtain ⟨s3, h3⟩ : ∃ s3, (tx.toList == [102, 97, 108, 115, 101]) = s3 := ⟨_, rfl⟩
      have HBAD : Hid ((!bad) = ((ne || nb) && !(k4 && (s1 || s2 || s3)))) := Lib.hid (by
        rw [← hbad, ← hne, ← hnb, ← hk4, ← h1, ← h2, ← h3]
        simp only [wordsK, List.contains_cons, List.contains_nil, Bool.or_false, ByteArray.toList_eq]
        simp [Bool.or_assoc])
      have HNM : Hid (∀ W, Calls Tryz.prog 66 #[.string nx] W fun e w' => e = .returned (.bool nb) ∧ W = w') := Lib.hid fun W => by
        have := rname_any nx hnz W
        rw [hnb] at this
        exact this
      have HQ2 := Lib.hid hq
      have HJJ := Lib.hid (And.intro hj hj')
      have hkq : (k4 = true → kd = 4) ∧ (k4 = false → ¬ kd = 4) := by
        refine ⟨fun h => ?_, fun h h' => ?_⟩
        · rw [h] at hk4
          rw [← hkd, beq_iff_eq.1 hk4]; rfl
        · rw [h] at hk4
          exact (beq_eq_false_iff_ne.1 hk4) (UInt8.toNat_inj.1 (by have : ((4 : UInt8).toNat : Int) = 4 := rfl; omega))
      have HKQ := Lib.hid hkq
      have hneq : (ne = true → nx.toList = []) ∧ (ne = false → ¬ nx.toList = []) := by
        rw [← hne]
        exact ⟨fun h => by simpa using h, fun h => by simpa using h⟩
      have HNEQ := Lib.hid hneq
      have i1 : (i : Int).toNat = i := by omega
      have i2 : (0 : Int) ≤ (i : Int) := by omega
      have i3 : (i : Int) < (n : Int) := by omega
      have i4 : IntKind.i64.wrap ((i : Int) + 1) = ((i + 1 : Nat) : Int) := by rw [IntWalk.i64_in _ (by omega)]; omega
      have l0 : (⟨#[]⟩ : ByteArray).toList = [] := by rw [ByteArray.toList_eq]
      clear q0 q1 q2 q3 q4 hbl hb' hq hbad hkd hnx htx hnl htl hnz hnb hk4 hkq hneq hj hj' hsz hil hg0
      go_upto_region 5 with fail
      obtain ⟨wc, hwc⟩ : ∃ wc, wr.alloc (.cells #[.int .u8 kd, .string nx, .string tx, .int .i64 c.num, .int .i64 c.many] 63) = wc := ⟨_, rfl⟩
      have HBC : Hid (Below w.heap.size w wc) := Lib.hid (by rw [← hwc]; exact HB.out.alloc HB.out.size _)
      have hh : wc.heap[wr.heap.size]? = some (.cells #[.int .u8 kd, .string nx, .string tx, .int .i64 c.num, .int .i64 c.many] 63 (0, 0)) := by rw [← hwc]; exact heap_new _ _ _ rfl
      have e0 : wc.cell? ⟨wr.heap.size, 0, none⟩ = some (.int .u8 kd) := Lib.cell_of_heap hh 0
      have e1 : wc.cell? ⟨wr.heap.size, 1, none⟩ = some (.string nx) := Lib.cell_of_heap hh 1
      have e2 : wc.cell? ⟨wr.heap.size, 2, none⟩ = some (.string tx) := Lib.cell_of_heap hh 2
      rw [hwc]
      clear hwc hh r0 r1 r2 r3 r4
      generalize wr.heap.size = cb at *
      go_cut [43] (fun s wx => s = .bool bad ∧ wx = wc)
      case first =>
        cases ne with
        | true =>
          have hnn := HNEQ.out.1 rfl
          cases k4 with
          | false =>
            have hkn := HKQ.out.2 rfl
            have hkb : (kd == 4) = false := by simpa using hkn
            go_wp2_with fail
            go_meet
            exact ⟨congrArg Value.bool (by have := HBAD.out; cases bad <;> first | rfl | simp at this), rfl⟩
          | true =>
            have hk := HKQ.out.1 rfl
            subst hk
            cases s1 with
            | true =>
              go_wp2_with fail
              go_meet
              exact ⟨congrArg Value.bool (by have := HBAD.out; cases bad <;> first | rfl | simp at this), rfl⟩
            | false =>
            cases s2 with
            | true =>
              go_wp2_with fail
              go_meet
              exact ⟨congrArg Value.bool (by have := HBAD.out; cases bad <;> first | rfl | simp at this), rfl⟩
            | false =>
            cases s3 with
            | true =>
              go_wp2_with fail
              go_meet
              exact ⟨congrArg Value.bool (by have := HBAD.out; cases bad <;> first | rfl | simp at this), rfl⟩
            | false =>
              go_wp2_with fail
              go_meet
              exact ⟨congrArg Value.bool (by have := HBAD.out; cases bad <;> first | rfl | simp at this), rfl⟩
        | false =>
          have hnn := HNEQ.out.2 rfl
          cases nb with
          | false =>
            go_wp2_with fail
            refine (HNM.out _).mono ?_; rintro e w2 ⟨rfl, rfl⟩
            go_wp2_with fail
            go_meet
            exact ⟨congrArg Value.bool (by have := HBAD.out; cases bad <;> first | rfl | simp at this), rfl⟩
          | true =>
            cases k4 with
            | false =>
              have hkn := HKQ.out.2 rfl
              have hkb : (kd == 4) = false := by simpa using hkn
              go_wp2_with fail
              refine (HNM.out _).mono ?_; rintro e w2 ⟨rfl, rfl⟩
              go_wp2_with fail
              go_meet
              exact ⟨congrArg Value.bool (by have := HBAD.out; cases bad <;> first | rfl | simp at this), rfl⟩
            | true =>
              have hk := HKQ.out.1 rfl
              subst hk
              cases s1 with
              | true =>
                go_wp2_with fail
                refine (HNM.out _).mono ?_; rintro e w2 ⟨rfl, rfl⟩
                go_wp2_with fail
                go_meet
                exact ⟨congrArg Value.bool (by have := HBAD.out; cases bad <;> first | rfl | simp at this), rfl⟩
              | false =>
              cases s2 with
              | true =>
                go_wp2_with fail
                refine (HNM.out _).mono ?_; rintro e w2 ⟨rfl, rfl⟩
                go_wp2_with fail
                go_meet
                exact ⟨congrArg Value.bool (by have := HBAD.out; cases bad <;> first | rfl | simp at this), rfl⟩
              | false =>
              cases s3 with
              | true =>
                go_wp2_with fail
                refine (HNM.out _).mono ?_; rintro e w2 ⟨rfl, rfl⟩
                go_wp2_with fail
                go_meet
                exact ⟨congrArg Value.bool (by have := HBAD.out; cases bad <;> first | rfl | simp at this), rfl⟩
              | false =>
                go_wp2_with fail
                refine (HNM.out _).mono ?_; rintro e w2 ⟨rfl, rfl⟩
                go_wp2_with fail
                go_meet
                exact ⟨congrArg Value.bool (by have := HBAD.out; cases bad <;> first | rfl | simp at this), rfl⟩
      case rest =>
        obtain ⟨rfl, hwe⟩ := hcut
        rw [hwe]
        clear hwe e0 e1 e2
        cases bad with
        | true =>
          have HF : Hid (false = Z) := Lib.hid (by rw [← HQ2.out]; simp)
          go_wp2_with fail
          go_ret
          exact ⟨ret_b HF.out, HBC.out⟩
        | false =>
          have HF : Hid ((mb && (V.drop (i + 1)).all okC) = Z) := Lib.hid (by rw [← HQ2.out]; simp)
          go_wp2_with fail
          obtain ⟨hj, hj'⟩ := HJJ.out
          go_roundg g1
          case measure => omega
          case rel => exact ⟨i + 1, by first | rfl | go_num, ⟨by omega, by omega⟩, HF, HBC⟩
set_option maxRecDepth 100000 in
theorem mayval_none (a : Option Addr) (c : Nat) (w : World) (HM : Hid (∀ W, Below w.heap.size w W → Calls Tryz.prog 67 #[.slice a 0 c] W fun e w' => e = .returned (.bool (mayB [])) ∧ Below W.heap.size W w')) :
    Calls Tryz.prog 36 #[.slice a 0 c] w fun e w' => e = .returned (.bool (litB [])) ∧ Below w.heap.size w w' := by
  go_enter Tryz.func36, Tryz.ntmps36
  go_wp2_with fail
  refine wp_loop_rounds 1 ?_; rw [rounds_succ]
  go_wp2_with fail
  refine (HM.out w (Below.refl _ _)).mono ?_; rintro e w2 ⟨rfl, hb⟩
  have HB := Lib.hid hb
  clear hb
  go_wp2_with fail
  go_ret
  exact ⟨rfl, HB.out⟩
theorem mayval_any (V : List Cel) (v : Value) (w : World) (hv : CelSl v V w) (hs : SmallV V) :
    Calls Tryz.prog 36 #[v] w fun e w' => e = .returned (.bool (litB V)) ∧ Below w.heap.size w w' := by
  have HM : Hid (∀ W, Below w.heap.size w W → Calls Tryz.prog 67 #[v] W fun e w' => e = .returned (.bool (mayB V)) ∧ Below W.heap.size W w') := Lib.hid fun W hW => rmay03_any V v W (hv.below hW) hs
  rcases hv with ⟨a, c, rfl, rfl, _⟩ | ⟨b, off, cap, rfl, hr, h0⟩
  · exact mayval_none a c w HM
  · exact mayval_go V b off cap hs.1 (fun c hc => (hs.2 c hc).1) w hr HM
/-- Of, at a literal that may be. -/
theorem of_any (V : List Cel) (v : Value) (w : World) (hv : CelSl v V w) (hs : SmallV V) (hV : litB V = true) :
    Calls Tryz.prog 37 #[v, .int .i64 0] w (OfS (tokK 16 V) w) := by
  have hm : mayB V = true := by have := hV; unfold litB at this; simp only [Bool.and_eq_true] at this; exact this.1
  obtain ⟨m1, m2, m3⟩ := mayB_parts hm
  rcases hv with ⟨a, c, rfl, rfl, _⟩ | ⟨b, off, cap, rfl, hr, h0⟩
  · simp at m1
  · have := of_walk V b off cap hs (by omega) 16 (Nat.le_refl _) w 0 V.length m1 hr (by rw [List.drop_zero]; exact m3)
    rw [List.drop_zero] at this
    exact this
set_option maxRecDepth 100000 in
theorem rtokens_any (V : List Cel) (v : Value) (w : World) (hv : CelSl v V w) (hs : SmallV V) :
    Calls Tryz.prog 12 #[v] w fun e w' => (∃ u, e = .returned (.tuple #[u, .int .i64 (toksE V)]) ∧ OwnT w.heap.size u (toksL V) w') ∧ Below w.heap.size w w' := by
  have HM := Lib.hid (mayval_any V v w hv hs)
  have HO : Hid (litB V = true → ∀ W, Below w.heap.size w W → Calls Tryz.prog 37 #[v, .int .i64 0] W (OfS (tokK 16 V) W)) := Lib.hid fun h W hW => of_any V v W (hv.below hW) hs h
  unfold toksE toksL
  clear hv hs
  cases hb : litB V with
  | false =>
    rw [hb] at HM
    clear hb HO
    go_enter Tryz.func12, Tryz.ntmps12
    go_wp2_with fail
    refine HM.out.mono ?_; rintro e w2 ⟨rfl, hb⟩
    have HB := Lib.hid hb
    clear hb
    go_wp2_with fail
    go_ret2
    exact ⟨⟨_, rfl, OwnT.nil _ _⟩, HB.out⟩
  | true =>
    have HO2 := Lib.hid (HO.out hb)
    rw [hb] at HM
    clear hb HO
    generalize tokK 16 V = tk at *
    go_enter Tryz.func12, Tryz.ntmps12
    go_wp2_with fail
    refine HM.out.mono ?_; rintro e w2 ⟨rfl, hb⟩
    have HB := Lib.hid hb
    clear hb
    go_wp2_with fail
    refine (HO2.out w2 HB.out).mono ?_; rintro e w3 ⟨⟨u, rfl, ho⟩, hb⟩
    have HB3 : Hid (Below w.heap.size w w3) := Lib.hid (HB.out.trans (hb.mono HB.out.size))
    have HO3 := Lib.hid (ho.lessU HB.out.size)
    clear hb ho
    go_wp2_with fail
    go_ret2
    exact ⟨⟨_, rfl, HO3.out⟩, HB3.out⟩
end Go.Proofs.YtgaknbnhmoddcaaGreatDoor
namespace Go.Proofs.YtgaknbnhmoddcaaGreatDoor
open Go.RowKit
theorem namedB_step (nm : List (List UInt8)) (x : List UInt8 × List Cel) (r : List (List UInt8 × List Cel)) : namedB nm (x :: r) = (!nm.contains x.1 && nameB x.1 && litB x.2 && namedB (x.1 :: nm) r) := rfl
def nmsA (A : List (List UInt8 × List Cel)) (i : Nat) : List (List UInt8) := ((A.take i).map (·.1)).reverse
theorem nmsA_step (A : List (List UInt8 × List Cel)) (i : Nat) (h : i < A.length) : nmsA A (i + 1) = A[i].1 :: nmsA A i := by
  unfold nmsA
  rw [List.take_succ_eq_append_getElem h, List.map_append, List.reverse_append]
  rfl
theorem nmsA_mem (A : List (List UInt8 × List Cel)) (i : Nat) (hi : i ≤ A.length) (s : List UInt8) : (nmsA A i).contains s = true ↔ ∃ (j : Nat) (hj : j < A.length), j < i ∧ A[j].1 = s := by
  unfold nmsA
  rw [List.contains_iff_mem, List.mem_reverse, List.mem_map]
  constructor
  · rintro ⟨x, hx, rfl⟩
    obtain ⟨j, hj, e⟩ := List.mem_iff_getElem.1 hx
    rw [List.length_take] at hj
    refine ⟨j, by omega, by omega, ?_⟩
    rw [List.getElem_take] at e
    rw [e]
  · rintro ⟨j, hj, hji, rfl⟩
    exact ⟨A[j], List.mem_iff_getElem.2 ⟨j, by rw [List.length_take]; omega, by rw [List.getElem_take]⟩, rfl⟩
set_option maxRecDepth 100000 in
set_option maxHeartbeats 4000000 in
theorem rma_go (A : List (List UInt8 × List Cel)) (b off cap : Nat) (w : World) (hA : XRow CelSl b off A w) (hs : ArgsSm A) :
    Calls Tryz.prog 45 #[.slice (some ⟨b, off, none⟩) A.length cap] w fun e w' => e = .returned (.bool (namedB [] A)) ∧ Below w.heap.size w w' := by
  have HA := Lib.hid hA
  have HS := Lib.hid hs.2
  have hl := hs.1
  obtain ⟨Z, hZ⟩ : ∃ Z, namedB [] A = Z := ⟨_, rfl⟩
  have HZ0 : Hid (namedB (nmsA A 0) (A.drop 0) = Z) := Lib.hid hZ
  rw [hZ]
  obtain ⟨n, hn⟩ : ∃ n, A.length = n := ⟨_, rfl⟩
  have HN := Lib.hid hn
  rw [hn] at hl ⊢
  clear hA hs hZ hn
  go_enter Tryz.func45, Tryz.ntmps45
  go_wp2_with fail
  go_loopg [3] (n + 1) (fun gk iv wr => ∃ i : Nat, iv = .int .i64 (i : Int) ∧ (gk + i ≤ n + 1 ∧ n + 1 ≤ gk + i) ∧ i ≤ n ∧ Hid (namedB (nmsA A i) (A.drop i) = Z) ∧ Hid (Below w.heap.size w wr))
  case atStart => exact ⟨0, by go_num, ⟨by omega, by omega⟩, by omega, HZ0, Lib.hid (Below.refl _ _)⟩
  case round =>
    clear HZ0
    rename World => wr
    obtain ⟨i, rfl, ⟨hj, hj'⟩, hin, HQ, HB⟩ := hrel
    obtain ⟨g1, rfl⟩ : ∃ g1, gk = g1 + 1 := ⟨gk - 1, by omega⟩
    by_cases hge : i = n
    · subst hge
      have hlt : ¬ (i : Int) < (i : Int) := by omega
      have HF : Hid (true = Z) := Lib.hid (by
        have := HQ.out
        rw [List.drop_of_length_le (by have := HN.out; omega)] at this
        exact this)
      clear hj hj'
      go_wp2_with fail
      go_ret
      exact ⟨ret_b HF.out, HB.out⟩
    · have hil : i < A.length := by have := HN.out; omega
      have i1 : (i : Int).toNat = i := by omega
      have i2 : (0 : Int) ≤ (i : Int) := by omega
      have i3 : (i : Int) < (n : Int) := by omega
      have i4 : IntKind.i64.wrap ((i : Int) + 1) = ((i + 1 : Nat) : Int) := by rw [IntWalk.i64_in _ (by omega)]; omega
      have hin2 : i + 1 ≤ n := by omega
      have hbw := HB.out
      obtain ⟨e0, a, vn, c, e1, hy⟩ := HA.out i hil
      obtain ⟨hx1, hx2⟩ := HS.out A[i] (List.getElem_mem hil)
      have r0 : wr.cell? ⟨b, off + i * 2, none⟩ = some (.string ⟨(A[i]'hil).1.toArray⟩) := (hbw.cell (p := ⟨b, _, none⟩) (lt_of_cell e0)).trans e0
      have r1 : wr.cell? ⟨b, off + i * 2 + 1, none⟩ = some (.slice a vn c) := (hbw.cell (p := ⟨b, _, none⟩) (lt_of_cell e0)).trans e1
      have hq := HQ.out
      rw [List.drop_eq_getElem_cons hil, namedB_step] at hq
      have hns := nmsA_step A i hil
      have hmem := nmsA_mem A i (by omega) (A[i]'hil).1
      have HMV : Hid (∀ W, Below w.heap.size w W → Calls Tryz.prog 36 #[.slice a vn c] W fun e w' => e = .returned (.bool (litB (A[i]'hil).2)) ∧ Below W.heap.size W w') := Lib.hid fun W hW => mayval_any _ _ W (hy.below hW) hx2
      obtain ⟨nb, hnb⟩ : ∃ nb : ByteArray, (⟨(A[i]'hil).1.toArray⟩ : ByteArray) = nb := ⟨_, rfl⟩
      have hnd : (A[i]'hil).1 = nb.data.toList := by rw [← hnb]
      have hnz : nb.size ≤ 1000000 := by rw [← bsz, ← hnd]; exact hx1
      rw [hnb] at r0
      rw [hnd] at hq hns hmem
      have HNM : Hid (∀ W, Calls Tryz.prog 66 #[.string nb] W fun e w' => e = .returned (.bool (nameB nb.data.toList)) ∧ W = w') := Lib.hid fun W => rname_any nb hnz W
      have HCELL : Hid (∀ j, j < i → ∃ y : ByteArray, (∀ (h : j < A.length), A[j].1 = y.data.toList) ∧ ∀ W, Below w.heap.size w W → W.cell? ⟨b, off + j * 2, none⟩ = some (.string y)) := Lib.hid fun j hj => by
        have hjl : j < A.length := by omega
        obtain ⟨f0, _⟩ := HA.out j hjl
        exact ⟨⟨A[j].1.toArray⟩, fun h => by simp, fun W hW => (hW.cell (p := ⟨b, _, none⟩) (lt_of_cell f0)).trans f0⟩
      have HCI : Hid (∀ W, Below w.heap.size w W → W.cell? ⟨b, off + i * 2, none⟩ = some (.string nb)) := Lib.hid fun W hW => by
        rw [← hnb]
        exact (hW.cell (p := ⟨b, _, none⟩) (lt_of_cell e0)).trans e0
      have HAL : Hid (i < A.length) := Lib.hid hil
      generalize litB (A[i]'hil).2 = lb at *
      generalize nameB nb.data.toList = nbb at *
      obtain ⟨cn, hcn⟩ : ∃ cn, (nmsA A i).contains nb.data.toList = cn := ⟨_, rfl⟩
      rw [hcn] at hq hmem
      have HMEM := Lib.hid hmem
      have HQ2 : Hid ((!cn && nbb && lb && namedB (nmsA A (i + 1)) (A.drop (i + 1))) = Z) := Lib.hid (by rw [← hq, hns])
      have HJJ := Lib.hid (And.intro hj hj')
      clear hj hj' hq hns hmem hnb hnd hnz hy hx1 hx2 e0 e1 hbw hil hcn hge HQ
      cases nbb with
      | false =>
        have HF : Hid (false = Z) := Lib.hid (by rw [← HQ2.out]; simp)
        go_wp2_with fail
        refine (HNM.out _).mono ?_; rintro e w2 ⟨rfl, rfl⟩
        go_wp2_with fail
        go_ret
        exact ⟨ret_b HF.out, HB.out⟩
      | true =>
        cases lb with
        | false =>
          have HF : Hid (false = Z) := Lib.hid (by rw [← HQ2.out]; simp)
          go_wp2_with fail
          refine (HNM.out _).mono ?_; rintro e w2 ⟨rfl, rfl⟩
          go_wp2_with fail
          refine (HMV.out _ HB.out).mono ?_; rintro e w2 ⟨rfl, hb⟩
          have HB2 : Hid (Below w.heap.size w w2) := Lib.hid (HB.out.trans (hb.mono HB.out.size))
          clear hb
          go_wp2_with fail
          go_ret
          exact ⟨ret_b HF.out, HB2.out⟩
        | true =>
          go_wp2_with fail
          refine (HNM.out _).mono ?_; rintro e w2 ⟨rfl, rfl⟩
          go_wp2_with fail
          refine (HMV.out _ HB.out).mono ?_; rintro e w2 ⟨rfl, hb⟩
          have HB2 : Hid (Below w.heap.size w w2) := Lib.hid (HB.out.trans (hb.mono HB.out.size))
          clear hb r0 r1 HNM HMV
          go_wp2_with fail
          go_loopg [4] (i + 1) (fun gm kv wz => ∃ k : Nat, kv = .int .i64 (k : Int) ∧ (gm + k ≤ i + 1 ∧ i + 1 ≤ gm + k) ∧ k ≤ i ∧ Hid (∀ (j : Nat) (hj : j < A.length), j < k → A[j].1 ≠ nb.data.toList) ∧ Hid (Below w.heap.size w wz))
          case atStart => exact ⟨0, by go_num, ⟨by omega, by omega⟩, by omega, Lib.hid (fun j _ h => absurd h (by omega)), HB2⟩
          case round =>
            rename World => wz
            obtain ⟨k, rfl, ⟨hm, hm'⟩, hki, HNO, HB3⟩ := hrel
            have r2 := HCI.out wz HB3.out
            obtain ⟨gm1, rfl⟩ : ∃ gm1, gk = gm1 + 1 := ⟨gk - 1, by omega⟩
            by_cases hke : k = i
            · subst hke
              have hlt : ¬ (k : Int) < (k : Int) := by omega
              have HF : Hid (namedB (nmsA A (k + 1)) (A.drop (k + 1)) = Z) := Lib.hid (by
                have hc : cn = false := by
                  cases cn with
                  | false => rfl
                  | true =>
                    obtain ⟨j, hj, hjk, he⟩ := HMEM.out.1 rfl
                    exact absurd he (HNO.out j hj hjk)
                rw [← HQ2.out, hc]; rfl)
              clear hm hm'
              go_wp2_with fail
              obtain ⟨hj, hj'⟩ := HJJ.out
              go_roundg g1
              case measure => omega
              case rel => exact ⟨k + 1, by first | rfl | go_num, ⟨by omega, by omega⟩, hin2, HF, HB3⟩
            · have hkl : k < i := by omega
              obtain ⟨y, hy, hyc⟩ := HCELL.out k hkl
              have s0 := hyc _ HB3.out
              have k1 : (k : Int).toNat = k := by omega
              have k2 : (0 : Int) ≤ (k : Int) := by omega
              have k3 : (k : Int) < (n : Int) := by omega
              have k5 : (k : Int) < (i : Int) := by omega
              have k4 : IntKind.i64.wrap ((k : Int) + 1) = ((k + 1 : Nat) : Int) := by rw [IntWalk.i64_in _ (by omega)]; omega
              obtain ⟨eq, heq⟩ : ∃ eq, (y.toList == nb.toList) = eq := ⟨_, rfl⟩
              have HEQ : Hid ((eq = true → y.data.toList = nb.data.toList) ∧ (eq = false → y.data.toList ≠ nb.data.toList)) := Lib.hid (by
                rw [← heq, ByteArray.toList_eq, ByteArray.toList_eq]
                exact ⟨fun h => by simpa using h, fun h => by simpa using h⟩)
              have hkA : k < A.length := by have := HAL.out; omega
              have HYV : Hid ((A[k]'hkA).1 = y.data.toList) := Lib.hid (hy hkA)
              have HMM := Lib.hid (And.intro hm hm')
              clear hy hyc hm hm' hke
              cases eq with
              | true =>
                have HF : Hid (false = Z) := Lib.hid (by
                  have hc : cn = true := HMEM.out.2 ⟨k, hkA, hkl, by rw [HYV.out]; exact HEQ.out.1 rfl⟩
                  rw [← HQ2.out, hc]; rfl)
                go_wp2_with fail
                go_region
                all_goals
                  go_wp2_with fail
                  go_ret
                  exact ⟨ret_b HF.out, HB3.out.drew⟩
              | false =>
                have HNN : Hid (∀ (j : Nat) (hj : j < A.length), j < k + 1 → A[j].1 ≠ nb.data.toList) := Lib.hid fun j hj h => by
                  by_cases hjk : j = k
                  · subst hjk; rw [HYV.out]; exact HEQ.out.2 rfl
                  · exact HNO.out j hj (by omega)
                go_wp2_with fail
                go_region
                all_goals
                  go_wp2_with fail
                  obtain ⟨hm, hm'⟩ := HMM.out
                  go_roundg gm1
                  case measure => omega
                  case rel => exact ⟨k + 1, by first | rfl | go_num, ⟨by omega, by omega⟩, by omega, HNN, Lib.hid HB3.out.drew⟩
set_option maxRecDepth 100000 in
theorem rma_none (a : Option Addr) (c : Nat) (w : World) :
    Calls Tryz.prog 45 #[.slice a 0 c] w fun e w' => e = .returned (.bool true) ∧ Below w.heap.size w w' := by
  go_enter Tryz.func45, Tryz.ntmps45
  go_wp2_with fail
  refine wp_loop_rounds 1 ?_; rw [rounds_succ]
  go_wp2_with fail
  go_ret
  exact ⟨rfl, Below.refl _ _⟩
theorem rma_any (A : List (List UInt8 × List Cel)) (u : Value) (w : World) (hA : ArgSl u A w) (hs : ArgsSm A) :
    Calls Tryz.prog 45 #[u] w fun e w' => e = .returned (.bool (namedB [] A)) ∧ Below w.heap.size w w' := by
  rcases hA with ⟨a, c, rfl, rfl⟩ | ⟨b, off, cap, rfl, hrow, hpos⟩
  · exact rma_none a c w
  · exact rma_go A b off cap w hrow hs
set_option maxRecDepth 100000 in
theorem ofa_none (a : Option Addr) (c : Nat) (w : World) :
    Calls Tryz.prog 46 #[.slice a 0 c] w (OfS [] w) := by
  go_enter Tryz.func46, Tryz.ntmps46
  go_wp2_with fail
  go_ret
  exact ⟨⟨_, rfl, OwnT.nil _ _⟩, Below.refl _ _⟩
set_option maxRecDepth 100000 in
set_option maxHeartbeats 4000000 in
theorem ofa_go (A : List (List UInt8 × List Cel)) (b off cap : Nat) (w : World) (hA : XRow CelSl b off A w) (hpos : 0 < A.length) (hs : ArgsSm A) (hV : ∀ x ∈ A, litB x.2 = true) (hroom : (A.flatMap argK).length ≤ 80000) :
    Calls Tryz.prog 46 #[.slice (some ⟨b, off, none⟩) A.length cap] w (OfS (mkT [40] :: (A.flatMap argK ++ [mkT [41]])) w) := by
  have HA := Lib.hid hA
  have HS := Lib.hid hs.2
  have HV := Lib.hid hV
  have hl := hs.1
  obtain ⟨R, hR⟩ : ∃ R, [mkT [40]] ++ A.flatMap argK = R := ⟨_, rfl⟩
  have HR0 : Hid ([mkT [40]] ++ (A.drop 0).flatMap argK = R) := Lib.hid hR
  have HRL : Hid (R.length ≤ 80001) := Lib.hid (by rw [← hR, List.length_append]; simp only [List.length_cons, List.length_nil]; omega)
  have HRR : mkT [40] :: (A.flatMap argK ++ [mkT [41]]) = R ++ [mkT [41]] := by rw [← hR]; simp
  rw [HRR]
  obtain ⟨n, hn⟩ : ∃ n, A.length = n := ⟨_, rfl⟩
  have HN := Lib.hid hn
  rw [hn] at hl hpos ⊢
  have hn0 : ¬ (n : Int) = 0 := by omega
  have hnb : ((n : Int) == 0) = false := by simpa using hn0
  clear hA hs hV hroom hR HRR hn
  go_enter Tryz.func46, Tryz.ntmps46
  go_wp2_with fail
  refine (rmark18 _ _).mono ?_; rintro e w1 ⟨rfl, hb⟩
  have HB1 := Lib.hid hb
  clear hb
  go_upto_region 4 with fail
  obtain ⟨w2, hw2⟩ : ∃ w2, w1.alloc (.cells #[.int .u8 4, .string ⟨#[40]⟩, .int .i64 0] 72) = w2 := ⟨_, rfl⟩
  have HB2 : Hid (Below w.heap.size w w2) := Lib.hid (by rw [← hw2]; exact HB1.out.alloc HB1.out.size _)
  have HO2 : Hid (OwnT w.heap.size (.slice (some ⟨w1.heap.size, 0, none⟩) 1 1) [mkT [40]] w2) := Lib.hid (by rw [← hw2]; exact (OwnT.one 4 4 rfl ⟨#[40]⟩ w1).lessU HB1.out.size)
  rw [hw2]
  clear hw2 HB1
  go_wp2_with fail
  go_loopg [3, 4] n (fun gk ov iv wr => ∃ (i : Nat) (out : List Tok) (ox : Value), ox = ov ∧ iv = .int .i64 (i : Int) ∧ (gk + i ≤ n ∧ n ≤ gk + i) ∧ Hid (out ++ (A.drop i).flatMap argK = R) ∧ Hid (OwnT w.heap.size ox out wr) ∧ Hid (Below w.heap.size w wr))
  case atStart => exact ⟨0, [mkT [40]], _, rfl, by go_num, ⟨by omega, by omega⟩, HR0, HO2, HB2⟩
  case round =>
    clear HR0 HO2 HB2
    rename World => wr
    obtain ⟨i, out, ox, rfl, rfl, ⟨hj, hj'⟩, HQ, HO, HB⟩ := hrel
    by_cases hg0 : gk = 0
    · subst hg0
      have hlt : ¬ (i : Int) < (n : Int) := by omega
      have HF : Hid (out = R) := Lib.hid (by
        have := HQ.out
        rw [List.drop_of_length_le (by have := HN.out; omega)] at this
        simpa using this)
      have HL2 : Hid (out.length + 1 ≤ 1000000) := Lib.hid (by rw [HF.out]; have := HRL.out; omega)
      clear hj hj'
      go_wp2_with fail
      refine (rmark18 _ _).mono ?_; rintro e w3 ⟨rfl, hb⟩
      have HO3 := Lib.hid (HO.out.below hb)
      have HB3 : Hid (Below w.heap.size w w3) := Lib.hid (HB.out.trans (hb.mono HB.out.size))
      clear hb
      go_wp2_with (at_builtin; refine wpList_appT rfl _ _ rfl w.heap.size ox (.slice (some ⟨w3.heap.size, 0, none⟩) 1 1) out [mkT [41]] rfl (HO3.out.alloc (.cells _ 72)) rfl (OwnT.one 4 4 rfl ⟨#[41]⟩ w3).sl ?c1 ?c2 ?_)
      case c1 => exact HL2.out
      case c2 => have := HB3.out.size; simp; omega
      intro v4 w4 ho hg
      have HB4 : Hid (Below w.heap.size w w4) := Lib.hid ((HB3.out.alloc HB3.out.size _).trans (OwnT.grow (HO3.out.alloc _) hg (Nat.le_refl _) (by have := HB3.out.size; simp; omega)))
      have HO4 := Lib.hid ho
      clear ho hg
      go_wp2_with fail
      go_ret
      exact ⟨⟨_, rfl, by rw [← HF.out]; exact HO4.out⟩, HB4.out⟩
    · obtain ⟨g1, rfl⟩ : ∃ g1, gk = g1 + 1 := ⟨gk - 1, by omega⟩
      have hil : i < A.length := by have := HN.out; omega
      have i1 : (i : Int).toNat = i := by omega
      have i2 : (0 : Int) ≤ (i : Int) := by omega
      have i3 : (i : Int) < (n : Int) := by omega
      have i4 : IntKind.i64.wrap ((i : Int) + 1) = ((i + 1 : Nat) : Int) := by rw [IntWalk.i64_in _ (by omega)]; omega
      have HJJ := Lib.hid (And.intro hj hj')
      have hbw := HB.out
      obtain ⟨e0, a, vn, c, e1, hy⟩ := HA.out i hil
      obtain ⟨hx1, hx2⟩ := HS.out A[i] (List.getElem_mem hil)
      have hxv := HV.out A[i] (List.getElem_mem hil)
      have r0 : wr.cell? ⟨b, off + i * 2, none⟩ = some (.string ⟨(A[i]'hil).1.toArray⟩) := (hbw.cell (p := ⟨b, _, none⟩) (lt_of_cell e0)).trans e0
      have HR1 : Hid (∀ W, Below w.heap.size w W → W.cell? ⟨b, off + i * 2 + 1, none⟩ = some (.slice a vn c)) := Lib.hid fun W hW => (hW.cell (p := ⟨b, _, none⟩) (lt_of_cell e0)).trans e1
      have hq := HQ.out
      rw [List.drop_eq_getElem_cons hil, List.flatMap_cons] at hq
      have HOF : Hid (∀ W, Below w.heap.size w W → Calls Tryz.prog 37 #[.slice a vn c, .int .i64 0] W (OfS (tokK 16 (A[i]'hil).2) W)) := Lib.hid fun W hW => of_any _ _ W (hy.below hW) hx2 hxv
      obtain ⟨nb, hnb⟩ : ∃ nb : ByteArray, (⟨(A[i]'hil).1.toArray⟩ : ByteArray) = nb := ⟨_, rfl⟩
      have hnd : (A[i]'hil).1 = nb.data.toList := by rw [← hnb]
      rw [hnb] at r0
      have hak : argK (A[i]'hil) = [nmT nb.data.toList, mkT [58]] ++ tokK 16 (A[i]'hil).2 := by unfold argK; rw [hnd]; rfl
      rw [hak] at hq
      generalize tokK 16 (A[i]'hil).2 = tj at *
      have HQ2 : Hid (((out ++ [nmT nb.data.toList, mkT [58]]) ++ tj) ++ (A.drop (i + 1)).flatMap argK = R) := Lib.hid (by rw [← hq]; simp)
      have HLY : Hid (out.length + 2 ≤ 1000000 ∧ (out ++ [nmT nb.data.toList, mkT [58]]).length + tj.length ≤ 1000000) := Lib.hid (by
        have h1 := congrArg List.length HQ2.out
        have h2 := HRL.out
        simp only [List.length_append, List.length_cons, List.length_nil] at h1 ⊢
        omega)
      clear hj hj' hq hak hnb hnd hy hx1 hx2 hxv e0 e1 hbw hil hg0 HQ
      go_wp2_with fail
      refine (rname18 _ _).mono ?_; rintro e w3 ⟨rfl, hb3⟩
      go_wp2_with fail
      refine (rmark18 _ _).mono ?_; rintro e w3b ⟨rfl, hb3b⟩
      have hbr : Below wr.heap.size wr w3b := hb3.trans (hb3b.mono hb3.size)
      have HO3 := Lib.hid (HO.out.below hbr)
      have HB3 : Hid (Below w.heap.size w w3b) := Lib.hid (HB.out.trans (hbr.mono HB.out.size))
      clear hb3 hb3b hbr
      go_wp2_with (at_builtin; refine wpList_appT rfl _ _ rfl w.heap.size ox (.slice (some ⟨w3b.heap.size, 0, none⟩) 2 2) out [nmT nb.data.toList, mkT [58]] rfl (HO3.out.alloc (.cells _ 72)) rfl (OwnT.two 1 1 rfl nb 4 4 rfl ⟨#[58]⟩ w3b).sl ?c1 ?c2 ?_)
      case c1 => exact HLY.out.1
      case c2 => have := HB3.out.size; simp; omega
      intro v4 w4 ho4 hg4
      have HB4 : Hid (Below w.heap.size w w4) := Lib.hid ((HB3.out.alloc HB3.out.size _).trans (OwnT.grow (HO3.out.alloc _) hg4 (Nat.le_refl _) (by have := HB3.out.size; simp; omega)))
      have HO4 := Lib.hid ho4
      clear ho4 hg4 r0
      have r1 := HR1.out w4 HB4.out
      go_wp2_with fail
      refine (HOF.out w4 HB4.out).mono ?_; rintro e w6 ⟨⟨v6, rfl, ho6⟩, hb6⟩
      have HO6 := Lib.hid (HO4.out.below hb6)
      have HB6 : Hid (Below w.heap.size w w6) := Lib.hid (HB4.out.trans (hb6.mono HB4.out.size))
      have HT6 := Lib.hid ho6
      clear hb6 ho6
      go_wp2_with (at_builtin; refine wpList_appT rfl _ _ rfl w.heap.size v4 v6 _ tj rfl HO6.out rfl HT6.out.sl ?c1 ?c2 ?_)
      case c1 => exact HLY.out.2
      case c2 => exact HB6.out.size
      intro v7 w7 ho7 hg7
      have HB7 : Hid (Below w.heap.size w w7) := Lib.hid (HB6.out.trans (OwnT.grow HO6.out hg7 (Nat.le_refl _) HB6.out.size))
      have HO7 : Hid (OwnT w.heap.size v7 ((out ++ [nmT nb.data.toList, mkT [58]]) ++ tj) w7) := Lib.hid (by rw [List.append_assoc]; exact ho7)
      clear ho7 hg7
      go_wp2_with fail
      obtain ⟨hj, hj'⟩ := HJJ.out
      go_roundg g1
      case measure => omega
      case rel => exact ⟨i + 1, _, v7, rfl, by first | rfl | go_num, ⟨by omega, by omega⟩, HQ2, HO7, HB7⟩
theorem namedB_lit : ∀ (nm : List (List UInt8)) (A : List (List UInt8 × List Cel)), namedB nm A = true → ∀ x ∈ A, litB x.2 = true
  | _, [], _ => fun x h => by cases h
  | nm, y :: r, h => by
    rw [namedB_step] at h
    simp only [Bool.and_eq_true] at h
    intro x hx
    rcases List.mem_cons.1 hx with rfl | hx
    · exact h.1.2
    · exact namedB_lit _ r h.2 x hx
theorem ofa_any (A : List (List UInt8 × List Cel)) (u : Value) (w : World) (hA : ArgSl u A w) (hs : ArgsSm A) (hV : namedB [] A = true) (hroom : roomA A ≤ 80000) :
    Calls Tryz.prog 46 #[u] w (OfS (argsK A) w) := by
  have hok := namedB_ok [] A hV fun x hx => (hs.2 x hx).2
  rcases hA with ⟨a, c, rfl, rfl⟩ | ⟨b, off, cap, rfl, hrow, hpos⟩
  · exact ofa_none a c w
  · have := ofa_go A b off cap w hrow hpos hs (namedB_lit [] A hV) (Nat.le_trans (argsK_len A hok) hroom)
    unfold argsK
    rw [if_neg (by cases A with | nil => simp at hpos | cons x r => simp)]
    exact this
set_option maxRecDepth 100000 in
theorem rat_any (A : List (List UInt8 × List Cel)) (u : Value) (w : World) (hA : ArgSl u A w) (hs : ArgsSm A) (hroom : roomA A ≤ 80000) :
    Calls Tryz.prog 16 #[u] w fun e w' => (∃ v, e = .returned (.tuple #[v, .int .i64 (atoksE A)]) ∧ OwnT w.heap.size v (atoksL A) w') ∧ Below w.heap.size w w' := by
  have HM := Lib.hid (rma_any A u w hA hs)
  have HO : Hid (namedB [] A = true → ∀ W, Below w.heap.size w W → Calls Tryz.prog 46 #[u] W (OfS (argsK A) W)) := Lib.hid fun h W hW => ofa_any A u W (ArgSl.below hA hW) hs h hroom
  unfold atoksE atoksL
  clear hA hs hroom
  generalize argsK A = tk at *
  cases hb : namedB [] A with
  | false =>
    rw [hb] at HM
    clear hb HO
    go_enter Tryz.func16, Tryz.ntmps16
    go_wp2_with fail
    refine HM.out.mono ?_; rintro e w2 ⟨rfl, hb⟩
    have HB := Lib.hid hb
    clear hb
    go_wp2_with fail
    go_ret2
    exact ⟨⟨_, rfl, OwnT.nil _ _⟩, HB.out⟩
  | true =>
    have HO2 := Lib.hid (HO.out hb)
    rw [hb] at HM
    clear hb HO
    go_enter Tryz.func16, Tryz.ntmps16
    go_wp2_with fail
    refine HM.out.mono ?_; rintro e w2 ⟨rfl, hb⟩
    have HB := Lib.hid hb
    clear hb
    go_wp2_with fail
    refine (HO2.out w2 HB.out).mono ?_; rintro e w3 ⟨⟨v, rfl, ho⟩, hb⟩
    have HB3 : Hid (Below w.heap.size w w3) := Lib.hid (HB.out.trans (hb.mono HB.out.size))
    have HO3 := Lib.hid (ho.lessU HB.out.size)
    clear hb ho
    go_wp2_with fail
    go_ret2
    exact ⟨⟨_, rfl, HO3.out⟩, HB3.out⟩
end Go.Proofs.YtgaknbnhmoddcaaGreatDoor
namespace Go.Proofs.YtgaknbnhmoddcaaGreatDoor
open Go.RowKit
theorem wp_appT {o : Oper} {a : Act} {K : Act → World → Prop} {Q : Exit → Act → World → Prop} {w : World} (s x : Operand)
    (ho : o.op = .call { callee := .builtin .append, args := #[s, x], argTypes := #[32, 32] }) (B : Nat) (v u : Value) (L M : List Tok) (hs : a.eval s = v) (hown : OwnT B v L w)
    (hx : a.eval x = u) (hu : TokSl u M w) (h0 : 0 < M.length) (hlen : L.length + M.length ≤ 1000000) (hB : B ≤ w.heap.size)
    (h : ∀ v' w', OwnT B v' (L ++ M) w' → w.grownBy w' v.ownBlock → K (a.put o.dst v') w') : o.wp Tryz.prog a w K Q := by
  obtain ⟨i0, hi, hz0, hz1, hz2⟩ := info_parts tok_info
  rcases hu with ⟨ua, uc, hu2, rfl, hcap⟩ | ⟨b, off, cap, hu2, hr⟩
  · cases h0
  · refine wp_append_own w s x 32 ho B 72 i0 (.agg #[.int .u8 0, .string ⟨#[]⟩, .int .i64 0]) 3 32 Tryz.underlying32 hi hz0 hz1 hz2 rfl (by decide) v L.length (tokCells L) hs hown ⟨b, off, none⟩ M.length cap (tokCells M) (hx.trans hu2) (tokCells_len M) (fun j q hq => by rw [addr_addT]; exact row_cells M b off w hr j q hq) (tokCells_one M) (by unfold maxLen; omega) (by omega) hB ?_
    intro v' w' h1 h2 _
    refine h v' w' ?_ h2
    unfold OwnT
    rw [List.length_append, tokCells_app]
    exact h1
set_option maxRecDepth 100000 in
set_option maxHeartbeats 4000000 in
theorem rmd_go (D : List (List UInt8 × List (List UInt8 × List Cel))) (b off cap : Nat) (w : World) (hA : XRow ArgSl b off D w) (hs : DirsSm D) :
    Calls Tryz.prog 47 #[.slice (some ⟨b, off, none⟩) D.length cap] w fun e w' => e = .returned (.bool (D.all dirB)) ∧ Below w.heap.size w w' := by
  have HA := Lib.hid hA
  have HS := Lib.hid hs.2
  have hl := hs.1
  obtain ⟨Z, hZ⟩ : ∃ Z, D.all dirB = Z := ⟨_, rfl⟩
  have HZ0 : Hid ((D.drop 0).all dirB = Z) := Lib.hid hZ
  rw [hZ]
  obtain ⟨n, hn⟩ : ∃ n, D.length = n := ⟨_, rfl⟩
  have HN := Lib.hid hn
  rw [hn] at hl ⊢
  clear hA hs hZ hn
  go_enter Tryz.func47, Tryz.ntmps47
  go_wp2_with fail
  go_loopg [3] (n + 1) (fun gk iv wr => ∃ i : Nat, iv = .int .i64 (i : Int) ∧ (gk + i ≤ n + 1 ∧ n + 1 ≤ gk + i) ∧ i ≤ n ∧ Hid ((D.drop i).all dirB = Z) ∧ Hid (Below w.heap.size w wr))
  case atStart => exact ⟨0, by go_num, ⟨by omega, by omega⟩, by omega, HZ0, Lib.hid (Below.refl _ _)⟩
  case round =>
    clear HZ0
    rename World => wr
    obtain ⟨i, rfl, ⟨hj, hj'⟩, hin, HQ, HB⟩ := hrel
    obtain ⟨g1, rfl⟩ : ∃ g1, gk = g1 + 1 := ⟨gk - 1, by omega⟩
    by_cases hge : i = n
    · subst hge
      have hlt : ¬ (i : Int) < (i : Int) := by omega
      have HF : Hid (true = Z) := Lib.hid (by
        have := HQ.out
        rw [List.drop_of_length_le (by have := HN.out; omega)] at this
        exact this)
      clear hj hj'
      go_wp2_with fail
      go_ret
      exact ⟨ret_b HF.out, HB.out⟩
    · have hil : i < D.length := by have := HN.out; omega
      have i1 : (i : Int).toNat = i := by omega
      have i2 : (0 : Int) ≤ (i : Int) := by omega
      have i3 : (i : Int) < (n : Int) := by omega
      have i4 : IntKind.i64.wrap ((i : Int) + 1) = ((i + 1 : Nat) : Int) := by rw [IntWalk.i64_in _ (by omega)]; omega
      have hin2 : i + 1 ≤ n := by omega
      have hbw := HB.out
      obtain ⟨e0, a, vn, c, e1, hy⟩ := HA.out i hil
      obtain ⟨hx1, hx2⟩ := HS.out D[i] (List.getElem_mem hil)
      have r0 : wr.cell? ⟨b, off + i * 2, none⟩ = some (.string ⟨(D[i]'hil).1.toArray⟩) := (hbw.cell (p := ⟨b, _, none⟩) (lt_of_cell e0)).trans e0
      have r1 : wr.cell? ⟨b, off + i * 2 + 1, none⟩ = some (.slice a vn c) := (hbw.cell (p := ⟨b, _, none⟩) (lt_of_cell e0)).trans e1
      have hq := HQ.out
      rw [List.drop_eq_getElem_cons hil, List.all_cons] at hq
      have HMV : Hid (∀ W, Below w.heap.size w W → Calls Tryz.prog 45 #[.slice a vn c] W fun e w' => e = .returned (.bool (namedB [] (D[i]'hil).2)) ∧ Below W.heap.size W w') := Lib.hid fun W hW => rma_any _ _ W (ArgSl.below hy hW) hx2
      obtain ⟨nb, hnb⟩ : ∃ nb : ByteArray, (⟨(D[i]'hil).1.toArray⟩ : ByteArray) = nb := ⟨_, rfl⟩
      have hnd : (D[i]'hil).1 = nb.data.toList := by rw [← hnb]
      have hnz : nb.size ≤ 1000000 := by rw [← bsz, ← hnd]; exact hx1
      rw [hnb] at r0
      have hdb : dirB (D[i]'hil) = (nameB nb.data.toList && namedB [] (D[i]'hil).2) := by unfold dirB; rw [hnd]
      rw [hdb] at hq
      have HNM : Hid (∀ W, Calls Tryz.prog 66 #[.string nb] W fun e w' => e = .returned (.bool (nameB nb.data.toList)) ∧ W = w') := Lib.hid fun W => rname_any nb hnz W
      have HQ2 := Lib.hid hq
      have HJJ := Lib.hid (And.intro hj hj')
      clear hj hj' hq hdb hnb hnd hnz hy hx1 hx2 e0 e1 hbw hge HQ
      generalize namedB [] (D[i]'hil).2 = lb at *
      generalize nameB nb.data.toList = nbb at *
      clear hil
      cases nbb with
      | false =>
        have HF : Hid (false = Z) := Lib.hid (by rw [← HQ2.out]; simp)
        go_wp2_with fail
        refine (HNM.out _).mono ?_; rintro e w2 ⟨rfl, rfl⟩
        go_wp2_with fail
        go_ret
        exact ⟨ret_b HF.out, HB.out⟩
      | true =>
        cases lb with
        | false =>
          have HF : Hid (false = Z) := Lib.hid (by rw [← HQ2.out]; simp)
          go_wp2_with fail
          refine (HNM.out _).mono ?_; rintro e w2 ⟨rfl, rfl⟩
          go_wp2_with fail
          refine (HMV.out _ HB.out).mono ?_; rintro e w2 ⟨rfl, hb⟩
          have HB2 : Hid (Below w.heap.size w w2) := Lib.hid (HB.out.trans (hb.mono HB.out.size))
          clear hb
          go_wp2_with fail
          go_ret
          exact ⟨ret_b HF.out, HB2.out⟩
        | true =>
          have HF : Hid ((D.drop (i + 1)).all dirB = Z) := Lib.hid (by rw [← HQ2.out]; simp)
          go_wp2_with fail
          refine (HNM.out _).mono ?_; rintro e w2 ⟨rfl, rfl⟩
          go_wp2_with fail
          refine (HMV.out _ HB.out).mono ?_; rintro e w2 ⟨rfl, hb⟩
          have HB2 : Hid (Below w.heap.size w w2) := Lib.hid (HB.out.trans (hb.mono HB.out.size))
          clear hb
          go_wp2_with fail
          obtain ⟨hj, hj'⟩ := HJJ.out
          go_roundg g1
          case measure => omega
          case rel => exact ⟨i + 1, by first | rfl | go_num, ⟨by omega, by omega⟩, hin2, HF, HB2⟩
set_option maxRecDepth 100000 in
theorem rmd_none (a : Option Addr) (c : Nat) (w : World) :
    Calls Tryz.prog 47 #[.slice a 0 c] w fun e w' => e = .returned (.bool true) ∧ Below w.heap.size w w' := by
  go_enter Tryz.func47, Tryz.ntmps47
  go_wp2_with fail
  refine wp_loop_rounds 1 ?_; rw [rounds_succ]
  go_wp2_with fail
  go_ret
  exact ⟨rfl, Below.refl _ _⟩
theorem rmd_any (D : List (List UInt8 × List (List UInt8 × List Cel))) (u : Value) (w : World) (hA : DirSl u D w) (hs : DirsSm D) :
    Calls Tryz.prog 47 #[u] w fun e w' => e = .returned (.bool (D.all dirB)) ∧ Below w.heap.size w w' := by
  rcases hA with ⟨a, c, rfl, rfl⟩ | ⟨b, off, cap, rfl, hrow, hpos⟩
  · exact rmd_none a c w
  · exact rmd_go D b off cap w hrow hs
set_option maxRecDepth 100000 in
theorem ofd_none (a : Option Addr) (c : Nat) (w : World) :
    Calls Tryz.prog 48 #[.slice a 0 c] w (OfS [] w) := by
  go_enter Tryz.func48, Tryz.ntmps48
  go_wp2_with fail
  refine wp_loop_rounds 1 ?_; rw [rounds_succ]
  go_wp2_with fail
  go_ret
  exact ⟨⟨_, rfl, OwnT.nil _ _⟩, Below.refl _ _⟩
set_option maxRecDepth 100000 in
set_option maxHeartbeats 4000000 in
theorem ofd_go (D : List (List UInt8 × List (List UInt8 × List Cel))) (b off cap : Nat) (w : World) (hA : XRow ArgSl b off D w) (hs : DirsSm D) (hV : ∀ x ∈ D, namedB [] x.2 = true) (hra : ∀ x ∈ D, roomA x.2 ≤ 80000) (hroom : (D.flatMap dirK).length ≤ 80000) :
    Calls Tryz.prog 48 #[.slice (some ⟨b, off, none⟩) D.length cap] w (OfS (D.flatMap dirK) w) := by
  have HA := Lib.hid hA
  have HS := Lib.hid hs.2
  have HV := Lib.hid hV
  have HRA := Lib.hid hra
  have hl := hs.1
  obtain ⟨R, hR⟩ : ∃ R, D.flatMap dirK = R := ⟨_, rfl⟩
  have HR0 : Hid (([] : List Tok) ++ (D.drop 0).flatMap dirK = R) := Lib.hid hR
  have HRL : Hid (R.length ≤ 80000) := Lib.hid (by rw [← hR]; exact hroom)
  rw [hR]
  obtain ⟨n, hn⟩ : ∃ n, D.length = n := ⟨_, rfl⟩
  have HN := Lib.hid hn
  rw [hn] at hl ⊢
  clear hA hs hV hra hroom hR hn
  go_enter Tryz.func48, Tryz.ntmps48
  go_wp2_with fail
  go_loopg [3, 4] n (fun gk ov iv wr => ∃ (i : Nat) (out : List Tok) (ox : Value), ox = ov ∧ iv = .int .i64 (i : Int) ∧ (gk + i ≤ n ∧ n ≤ gk + i) ∧ Hid (out ++ (D.drop i).flatMap dirK = R) ∧ Hid (OwnT w.heap.size ox out wr) ∧ Hid (Below w.heap.size w wr))
  case atStart => exact ⟨0, [], _, rfl, by go_num, ⟨by omega, by omega⟩, HR0, Lib.hid (OwnT.nil _ _), Lib.hid (Below.refl _ _)⟩
  case round =>
    clear HR0
    rename World => wr
    obtain ⟨i, out, ox, rfl, rfl, ⟨hj, hj'⟩, HQ, HO, HB⟩ := hrel
    by_cases hg0 : gk = 0
    · subst hg0
      have hlt : ¬ (i : Int) < (n : Int) := by omega
      have HF : Hid (out = R) := Lib.hid (by
        have := HQ.out
        rw [List.drop_of_length_le (by have := HN.out; omega)] at this
        simpa using this)
      clear hj hj'
      go_wp2_with fail
      go_ret
      exact ⟨⟨_, rfl, by rw [← HF.out]; exact HO.out⟩, HB.out⟩
    · obtain ⟨g1, rfl⟩ : ∃ g1, gk = g1 + 1 := ⟨gk - 1, by omega⟩
      have hil : i < D.length := by have := HN.out; omega
      have i1 : (i : Int).toNat = i := by omega
      have i2 : (0 : Int) ≤ (i : Int) := by omega
      have i3 : (i : Int) < (n : Int) := by omega
      have i4 : IntKind.i64.wrap ((i : Int) + 1) = ((i + 1 : Nat) : Int) := by rw [IntWalk.i64_in _ (by omega)]; omega
      have HJJ := Lib.hid (And.intro hj hj')
      have hbw := HB.out
      obtain ⟨e0, a, vn, c, e1, hy⟩ := HA.out i hil
      obtain ⟨hx1, hx2⟩ := HS.out D[i] (List.getElem_mem hil)
      have hxv := HV.out D[i] (List.getElem_mem hil)
      have hxr := HRA.out D[i] (List.getElem_mem hil)
      have r0 : wr.cell? ⟨b, off + i * 2, none⟩ = some (.string ⟨(D[i]'hil).1.toArray⟩) := (hbw.cell (p := ⟨b, _, none⟩) (lt_of_cell e0)).trans e0
      have HR1 : Hid (∀ W, Below w.heap.size w W → W.cell? ⟨b, off + i * 2 + 1, none⟩ = some (.slice a vn c)) := Lib.hid fun W hW => (hW.cell (p := ⟨b, _, none⟩) (lt_of_cell e0)).trans e1
      have hq := HQ.out
      rw [List.drop_eq_getElem_cons hil, List.flatMap_cons] at hq
      have HOF : Hid (∀ W, Below w.heap.size w W → Calls Tryz.prog 46 #[.slice a vn c] W (OfS (argsK (D[i]'hil).2) W)) := Lib.hid fun W hW => ofa_any _ _ W (ArgSl.below hy hW) hx2 hxv hxr
      obtain ⟨nb, hnb⟩ : ∃ nb : ByteArray, (⟨(D[i]'hil).1.toArray⟩ : ByteArray) = nb := ⟨_, rfl⟩
      have hnd : (D[i]'hil).1 = nb.data.toList := by rw [← hnb]
      rw [hnb] at r0
      have hak : dirK (D[i]'hil) = [mkT [64], nmT nb.data.toList] ++ argsK (D[i]'hil).2 := by unfold dirK; rw [hnd]; rfl
      rw [hak] at hq
      generalize argsK (D[i]'hil).2 = tj at *
      have HQ2 : Hid (((out ++ [mkT [64], nmT nb.data.toList]) ++ tj) ++ (D.drop (i + 1)).flatMap dirK = R) := Lib.hid (by rw [← hq]; simp)
      have HLY : Hid (out.length + 2 ≤ 1000000 ∧ (out ++ [mkT [64], nmT nb.data.toList]).length + tj.length ≤ 1000000) := Lib.hid (by
        have h1 := congrArg List.length HQ2.out
        have h2 := HRL.out
        simp only [List.length_append, List.length_cons, List.length_nil] at h1 ⊢
        omega)
      clear hj hj' hq hak hnb hnd hy hx1 hx2 hxv hxr e0 e1 hbw hil hg0 HQ
      go_upto_region 5 with fail
      go_cut [3] (fun s wx => ∃ v4, s = v4 ∧ Hid (OwnT w.heap.size v4 (out ++ [mkT [64], nmT nb.data.toList]) wx) ∧ Hid (Below w.heap.size w wx))
      case first =>
        have HBd : Below w.heap.size w wr.drew := HB.out.drew
        have HOd : OwnT w.heap.size ox out wr.drew := HO.out
        have e2d : wr.drew.cell? ⟨b, off + i * 2, none⟩ = some (.string nb) := r0
        refine wp_region_held_drew (S := fun _ => True) (by kernel_rfl) trivial (fun hHeld => ?_)
        refine tky 0 (some 11) (v := ?_) rfl (by kernel_rfl) (by kernel_rfl) (by kernel_rfl) (fun _ _ _ h => h) ?_ hHeld ?_
        rotate_left
        focus (intro w hSw; go_simp; (try with_reducible rfl); done)
        go_frame
        refine tky 2 (some 13) (v := ?_) rfl (by kernel_rfl) (by kernel_rfl) (by kernel_rfl) (fun _ _ _ h => h) ?_ hHeld ?_
        rotate_left
        focus (intro w hSw; go_simp; (try with_reducible rfl); done)
        go_frame
        refine tky 3 (some 14) (v := ?_) rfl (by kernel_rfl) (by kernel_rfl) (by kernel_rfl) (fun _ _ _ h => h) ?_ hHeld ?_
        rotate_left
        focus (intro w hSw; go_simp; (try with_reducible rfl); done)
        go_frame
        refine tky 4 (some 15) (v := ?_) rfl (by kernel_rfl) (by kernel_rfl) (by kernel_rfl) (fun _ _ _ h => h) ?_ hHeld ?_
        rotate_left
        focus (intro w hSw; go_simp; (try with_reducible rfl); done)
        go_frame
        refine tky 5 (some 16) (v := ?_) rfl (by kernel_rfl) (by kernel_rfl) (by kernel_rfl) (fun _ _ _ h => h) ?_ hHeld ?_
        rotate_left
        focus (intro w hSw; go_simp; (try with_reducible rfl); done)
        go_frame
        refine wpAnyH_ready (rs := [1, 6]) (by kernel_rfl) (by simp) ?_
        refine acons 1 rfl (fun K hK => ?_) ?_
        · go_simp
          refine (rmark18 _ _).mono ?_; rintro e w3 ⟨rfl, hb3⟩; have e2d := keep_cell hb3 e2d; have HOd := HOd.below hb3; have HBd := Below.trans HBd (hb3.mono HBd.size); clear hb3
          (try dsimp only)
          refine hK.out _ _ trivial (fun _ => ?_)
          clear hK K
          (try go_frame)
          refine rcons 6 rfl (by kernel_rfl) (fun K hK => ?_)
          go_simp
          refine hK.out _ _ trivial (fun _ => ?_)
          clear hK K
          (try go_frame)
          refine rcons 7 rfl (by kernel_rfl) (fun K hK => ?_)
          go_simp
          refine (rname18 _ _).mono ?_; rintro e w3 ⟨rfl, hb3⟩; have e2d := keep_cell hb3 e2d; have HOd := HOd.below hb3; have HBd := Below.trans HBd (hb3.mono HBd.size); clear hb3
          (try dsimp only)
          refine hK.out _ _ trivial (fun _ => ?_)
          clear hK K
          (try go_frame)
          refine rcons 8 rfl (by kernel_rfl) (fun K hK => ?_)
          go_simp
          refine hK.out _ _ trivial (fun _ => ?_)
          clear hK K
          (try go_frame)
          refine rcons 9 rfl (by kernel_rfl) (fun K hK => ?_)
          rw [if_pos]
          rotate_left
          focus kernel_rfl
          refine wp_appT _ _ rfl w.heap.size ox (.slice (some ⟨_, 0, none⟩) 2 2) out [mkT [64], nmT nb.data.toList] rfl (HOd.alloc (.cells _ 72)) rfl (OwnT.two 4 4 rfl ⟨#[64]⟩ 1 1 rfl nb _).sl (by simp) HLY.out.1 (Nat.le_trans HBd.size (by simp)) ?_
          intro v4 w4 ho4 hg4
          have HB4 : Hid (Below w.heap.size w w4) := Lib.hid ((HBd.alloc HBd.size _).trans (OwnT.grow (HOd.alloc _) hg4 (Nat.le_refl _) (Nat.le_trans HBd.size (by simp))))
          have HO4 : Hid (OwnT w.heap.size v4 (out ++ [mkT [64], nmT nb.data.toList]) w4) := Lib.hid ho4
          clear ho4 hg4
          (try dsimp only)
          refine hK.out _ _ trivial (fun _ => ?_)
          clear hK K
          (try go_frame)
          refine tky 10 (some 3) (v := ?_) rfl (by kernel_rfl) (by kernel_rfl) (by kernel_rfl) (fun _ _ _ h => h) ?_ hHeld ?_
          rotate_left
          focus (intro w hSw; go_simp; (try with_reducible rfl); done)
          go_frame
          refine wpAnyH_done (by kernel_rfl) ?_ _
          go_wp2_with fail
          go_meet
          exact ⟨_, rfl, HO4, HB4⟩
        refine acons 6 rfl (fun K hK => ?_) ?_
        · go_simp
          refine hK.out _ _ trivial (fun _ => ?_)
          clear hK K
          (try go_frame)
          refine rcons 1 rfl (by kernel_rfl) (fun K hK => ?_)
          go_simp
          refine (rmark18 _ _).mono ?_; rintro e w3 ⟨rfl, hb3⟩; have e2d := keep_cell hb3 e2d; have HOd := HOd.below hb3; have HBd := Below.trans HBd (hb3.mono HBd.size); clear hb3
          (try dsimp only)
          refine hK.out _ _ trivial (fun _ => ?_)
          clear hK K
          (try go_frame)
          refine rcons 7 rfl (by kernel_rfl) (fun K hK => ?_)
          go_simp
          refine (rname18 _ _).mono ?_; rintro e w3 ⟨rfl, hb3⟩; have e2d := keep_cell hb3 e2d; have HOd := HOd.below hb3; have HBd := Below.trans HBd (hb3.mono HBd.size); clear hb3
          (try dsimp only)
          refine hK.out _ _ trivial (fun _ => ?_)
          clear hK K
          (try go_frame)
          refine rcons 8 rfl (by kernel_rfl) (fun K hK => ?_)
          go_simp
          refine hK.out _ _ trivial (fun _ => ?_)
          clear hK K
          (try go_frame)
          refine rcons 9 rfl (by kernel_rfl) (fun K hK => ?_)
          rw [if_pos]
          rotate_left
          focus kernel_rfl
          refine wp_appT _ _ rfl w.heap.size ox (.slice (some ⟨_, 0, none⟩) 2 2) out [mkT [64], nmT nb.data.toList] rfl (HOd.alloc (.cells _ 72)) rfl (OwnT.two 4 4 rfl ⟨#[64]⟩ 1 1 rfl nb _).sl (by simp) HLY.out.1 (Nat.le_trans HBd.size (by simp)) ?_
          intro v4 w4 ho4 hg4
          have HB4 : Hid (Below w.heap.size w w4) := Lib.hid ((HBd.alloc HBd.size _).trans (OwnT.grow (HOd.alloc _) hg4 (Nat.le_refl _) (Nat.le_trans HBd.size (by simp))))
          have HO4 : Hid (OwnT w.heap.size v4 (out ++ [mkT [64], nmT nb.data.toList]) w4) := Lib.hid ho4
          clear ho4 hg4
          (try dsimp only)
          refine hK.out _ _ trivial (fun _ => ?_)
          clear hK K
          (try go_frame)
          refine tky 10 (some 3) (v := ?_) rfl (by kernel_rfl) (by kernel_rfl) (by kernel_rfl) (fun _ _ _ h => h) ?_ hHeld ?_
          rotate_left
          focus (intro w hSw; go_simp; (try with_reducible rfl); done)
          go_frame
          refine wpAnyH_done (by kernel_rfl) ?_ _
          go_wp2_with fail
          go_meet
          exact ⟨_, rfl, HO4, HB4⟩
        exact AllReadyH.nil
      case rest =>
        obtain ⟨v4, hv4, HO4, HB4⟩ := hcut
        rw [hv4]
        clear hv4
        obtain ⟨w4, hw4⟩ : ∃ w4, wc = w4 := ⟨_, rfl⟩
        rw [hw4] at HO4 HB4 ⊢
        clear hw4 r0
        have r1 := HR1.out w4 HB4.out
        go_wp2_with fail
        refine (HOF.out w4 HB4.out).mono ?_; rintro e w6 ⟨⟨v6, rfl, ho6⟩, hb6⟩
        have HO6 := Lib.hid (HO4.out.below hb6)
        have HB6 : Hid (Below w.heap.size w w6) := Lib.hid (HB4.out.trans (hb6.mono HB4.out.size))
        have HT6 := Lib.hid ho6
        clear hb6 ho6
        go_wp2_with (at_builtin; refine wpList_appT rfl _ _ rfl w.heap.size v4 v6 _ tj rfl HO6.out rfl HT6.out.sl ?c1 ?c2 ?_)
        case c1 => exact HLY.out.2
        case c2 => exact HB6.out.size
        intro v7 w7 ho7 hg7
        have HB7 : Hid (Below w.heap.size w w7) := Lib.hid (HB6.out.trans (OwnT.grow HO6.out hg7 (Nat.le_refl _) HB6.out.size))
        have HO7 : Hid (OwnT w.heap.size v7 ((out ++ [mkT [64], nmT nb.data.toList]) ++ tj) w7) := Lib.hid (by first | exact ho7 | (rw [List.append_assoc]; exact ho7))
        clear ho7 hg7
        go_wp2_with fail
        obtain ⟨hj, hj'⟩ := HJJ.out
        go_roundg g1
        case measure => omega
        case rel => exact ⟨i + 1, _, v7, rfl, by first | rfl | go_num, ⟨by omega, by omega⟩, HQ2, HO7, HB7⟩
theorem dirs_len : ∀ D : List (List UInt8 × List (List UInt8 × List Cel)), DirsSm D → (∀ x ∈ D, namedB [] x.2 = true) → (D.flatMap dirK).length ≤ roomD D
  | [], _, _ => Nat.le_refl _
  | x :: r, hs, h => by
    have h1 := argsK_le x.2 (namedB_ok [] x.2 (h x (by simp)) fun y hy => ((hs.2 x (by simp)).2.2 y hy).2)
    have h2 := dirs_len r ⟨by have := hs.1; rw [List.length_cons] at this; omega, fun y hy => hs.2 y (by simp [hy])⟩ (fun y hy => h y (by simp [hy]))
    have h5 : (dirK x).length = 2 + (argsK x.2).length := by simp [dirK]; omega
    rw [List.flatMap_cons, List.length_append, roomD]
    omega
theorem roomD_mem : ∀ (D : List (List UInt8 × List (List UInt8 × List Cel))) (x), x ∈ D → roomA x.2 ≤ roomD D
  | y :: r, x, h => by
    rw [roomD]
    rcases List.mem_cons.1 h with rfl | h
    · omega
    · have := roomD_mem r x h; omega
theorem ofd_any (D : List (List UInt8 × List (List UInt8 × List Cel))) (u : Value) (w : World) (hA : DirSl u D w) (hs : DirsSm D) (hV : D.all dirB = true) (hroom : roomD D ≤ 80000) :
    Calls Tryz.prog 48 #[u] w (OfS (D.flatMap dirK) w) := by
  have hN : ∀ x ∈ D, namedB [] x.2 = true := fun x hx => by
    have := List.all_eq_true.1 hV x hx
    unfold dirB at this
    simp only [Bool.and_eq_true] at this
    exact this.2
  rcases hA with ⟨a, c, rfl, rfl⟩ | ⟨b, off, cap, rfl, hrow, hpos⟩
  · exact ofd_none a c w
  · exact ofd_go D b off cap w hrow hs hN (fun x hx => Nat.le_trans (roomD_mem D x hx) hroom) (Nat.le_trans (dirs_len D hs hN) hroom)
set_option maxRecDepth 100000 in
theorem rdt_any (D : List (List UInt8 × List (List UInt8 × List Cel))) (u : Value) (w : World) (hA : DirSl u D w) (hs : DirsSm D) (hroom : roomD D ≤ 80000) :
    Calls Tryz.prog 18 #[u] w fun e w' => (∃ v, e = .returned (.tuple #[v, .int .i64 (dtoksE D)]) ∧ OwnT w.heap.size v (dtoksL D) w') ∧ Below w.heap.size w w' := by
  have HM := Lib.hid (rmd_any D u w hA hs)
  have HO : Hid (D.all dirB = true → ∀ W, Below w.heap.size w W → Calls Tryz.prog 48 #[u] W (OfS (D.flatMap dirK) W)) := Lib.hid fun h W hW => ofd_any D u W (DirSl.below hA hW) hs h hroom
  unfold dtoksE dtoksL
  clear hA hs hroom
  generalize D.flatMap dirK = tk at *
  cases hb : D.all dirB with
  | false =>
    rw [hb] at HM
    clear hb HO
    go_enter Tryz.func18, Tryz.ntmps18
    go_wp2_with fail
    refine HM.out.mono ?_; rintro e w2 ⟨rfl, hb⟩
    have HB := Lib.hid hb
    clear hb
    go_wp2_with fail
    go_ret2
    exact ⟨⟨_, rfl, OwnT.nil _ _⟩, HB.out⟩
  | true =>
    have HO2 := Lib.hid (HO.out hb)
    rw [hb] at HM
    clear hb HO
    go_enter Tryz.func18, Tryz.ntmps18
    go_wp2_with fail
    refine HM.out.mono ?_; rintro e w2 ⟨rfl, hb⟩
    have HB := Lib.hid hb
    clear hb
    go_wp2_with fail
    refine (HO2.out w2 HB.out).mono ?_; rintro e w3 ⟨⟨v, rfl, ho⟩, hb⟩
    have HB3 : Hid (Below w.heap.size w w3) := Lib.hid (HB.out.trans (hb.mono HB.out.size))
    have HO3 := Lib.hid (ho.lessU HB.out.size)
    clear hb ho
    go_wp2_with fail
    go_ret2
    exact ⟨⟨_, rfl, HO3.out⟩, HB3.out⟩
end Go.Proofs.YtgaknbnhmoddcaaGreatDoor
namespace Go.Proofs.YtgaknbnhmoddcaaGreatDoor
open Go.RowKit Go.Shelf
attribute [local go_sem] Oper.semAt_some
def wo (x : UInt8) : List Tok := if x = 2 then [mkT [91]] else []
theorem wo_bits (bs : List Bool) : (bs.map wz).flatMap wo = bs.flatMap wop := by
  induction bs with
  | nil => rfl
  | cons b r ih =>
    rw [List.map_cons, List.flatMap_cons, List.flatMap_cons, ih]
    cases b <;> rfl
theorem postM_ret {F : Fence} {n : Nat} {P : Program} {fn : Func} {R : Ending → World → Prop} {a : Act} {w : World} {v : Value} (hr : (results fn a.tmps).run P w = .ok v w) (hd : a.defers = []) (h : R (.returned v) w) : bodyPostM F n P fn R .ret a w := by
  show LeavesInM F n P fn a.tmps R a.defers .returning w
  rw [hd]
  exact ⟨v, hr, h⟩
theorem OwnT.kept {B : Nat} {v : Value} {L : List Tok} {W W' : World} {row : Option Nat} (h : OwnT B v L W) (hg : W.grownBy W' row) (hr : ∀ r, row = some r → ∃ o : Obj, W.heap[r]? = some o ∧ o.isCells = false) : OwnT B v L W' := by
  obtain ⟨h1, h2⟩ := h
  refine ⟨h1, ?_⟩
  rcases h2 with h2 | ⟨g, cap, cur, hv, hB, hg', hrest⟩
  · exact Or.inl h2
  · exact Or.inr ⟨g, cap, cur, hv, hB, (grownBy_keeps_cells hg hr hg' rfl).trans hg', hrest⟩
theorem PutS.kept {p : Nat} {v : Value} {L : List Tok} {W W' : World} {row : Option Nat} (h : PutS p v L W) (hg : W.grownBy W' row) (hr : ∀ r, row = some r → ∃ o : Obj, W.heap[r]? = some o ∧ o.isCells = false) : PutS p v L W' :=
  ⟨(grownBy_keeps_cells hg hr h.1 rfl).trans h.1, h.2.kept hg hr⟩
/-- A range over a function of two loop variables, whose body goes on. -/
theorem rangeF2 {P : Program} {g : Operand} {p1 p2 ps : Tmp} {assign body : Code} {Q : Exit → Act → World → Prop} {a : Act} {w : World} {gf : Nat} {lb : Array Value} (hg : a.eval g = .func (.func gf) #[] lb) (eg : ∀ args w, (callFunc gf args).run P w = .ok (.enter gf args) w)
    {p : Nat} {S Sp : List (Nat × Bool) → Prop} {N : Nat} {w0 : World} (hseq : SeqStopsK Fence.wide (3 - 1) P gf lb (fun x : Nat × Bool => #[Value.int .i64 (x.1 : Int), Value.int .u8 ((wz x.2).toNat : Int)]) (KC p) S Sp N w0) (hb0 : Below w0.heap.size w0 w)
    (I : List (Nat × Bool) → World → Prop) (hI : OwnFrom w.heap.size I) (h0 : I [] w)
    (hassign : ∀ (l : Nat) (x : Nat × Bool) (W : World) (K : Act → World → Prop), K { tmps := ((a.tmps.setIfInBounds p1 (Value.int .i64 (x.1 : Int))).setIfInBounds p2 (Value.int .u8 ((wz x.2).toNat : Int))).setIfInBounds ps (Value.int .u8 ((wz x.2).toNat : Int)), defers := [] } W →
      assign.wpIn (Fence.wide.inRound l) (3 - 1 - 1) P (Exit.then K (fun _ _ _ => False)) { tmps := (a.tmps.setIfInBounds p1 (Value.int .i64 (x.1 : Int))).setIfInBounds p2 (Value.int .u8 ((wz x.2).toNat : Int)), defers := [] } W)
    (hbody : ∀ (l : Nat) (pre : List (Nat × Bool)) (x : Nat × Bool) (W : World), I pre W → pre.length < N → body.wpIn (Fence.wide.inRound l) (3 - 1 - 1) P (ownPostG w.heap.size (KC p) I (fun _ _ _ => False) (pre ++ [x]) W) { tmps := ((a.tmps.setIfInBounds p1 (Value.int .i64 (x.1 : Int))).setIfInBounds p2 (Value.int .u8 ((wz x.2).toNat : Int))).setIfInBounds ps (Value.int .u8 ((wz x.2).toNat : Int)), defers := [] } W)
    (hdone : ∀ (D : Nat) (xs : List (Nat × Bool)) (W : World), w.heap.size ≤ D → S xs → I xs W → W.heap[D]? = some (.deferred (some [])) → Q .normal { a with defers := { target := .collected D, args := #[] } :: a.defers } W) :
    (Code.rangeFunc g #[p1, p2] assign body).wp P Q a w := by
  refine wpIn_wide.1 (wpIn_rangeFunc_ownG (F := Fence.wide) (n := 3) rfl (by decide) hg trivial eg hseq (fun h k => KC.trans h k) (fun W l o o' _ h ho _ => KC.book W l o o' h ho) hb0 (fun _ => rfl) I (fun _ _ _ => False) hI (fun _ _ _ _ _ hs _ _ => hs) h0
    (fun x => { tmps := ((a.tmps.setIfInBounds p1 (Value.int .i64 (x.1 : Int))).setIfInBounds p2 (Value.int .u8 ((wz x.2).toNat : Int))).setIfInBounds ps (Value.int .u8 ((wz x.2).toNat : Int)), defers := [] }) ?_ ?_ ?_ ?_)
  · intro l x W K hK
    simpa using hassign l x W K hK
  · intro l pre x W hi hp
    exact hbody l pre x W hi hp
  · exact hdone
  · intro D c pre W _ _ h _
    exact h.elim
theorem typB_step {lst x : UInt8} {r : List UInt8} : typB lst (x :: r) = ((x == 1 || x == 2) && !(x == 1 && lst == 1) && typB x r) := rfl
set_option maxRecDepth 100000 in
set_option maxHeartbeats 8000000 in
theorem tt_go (nm : ByteArray) (hnm : nameB nm.data.toList = true) (hnz : nm.size ≤ 1000000) (ws : List UInt8) (hl : ws.length ≤ 8) (a : Option Addr) (c : Nat) (w : World) (hu : BSl (.slice a ws.length c) ws w) :
    Calls Tryz.prog 13 #[.agg #[.string nm, .slice a ws.length c]] w fun e w' => (∃ v, e = .returned (.tuple #[v, .int .i64 (ttE nm.data.toList ws)]) ∧ OwnT w.heap.size v (ttL nm.data.toList ws) w') ∧ Below w.heap.size w w' := by
  obtain ⟨ZE, hZE⟩ : ∃ ZE, ttE nm.data.toList ws = ZE := ⟨_, rfl⟩
  obtain ⟨ZL, hZL⟩ : ∃ ZL, ttL nm.data.toList ws = ZL := ⟨_, rfl⟩
  obtain ⟨Z, hZ⟩ : ∃ Z, typB 2 ws = Z := ⟨_, rfl⟩
  have htt : ttB nm.data.toList ws = Z := by unfold ttB; rw [hnm, hZ, decide_eq_true hl]; simp
  rw [hZE, hZL]
  have HQ : Hid (Z = true → ZE = 0 ∧ typK nm.data.toList ws = ZL) := Lib.hid fun h => by
    unfold ttE at hZE; unfold ttL at hZL; rw [htt, h] at hZE hZL; exact ⟨hZE.symm, hZL⟩
  have HNO : Hid (Z = false → ZE = 8 ∧ ZL = []) := Lib.hid fun h => by
    unfold ttE at hZE; unfold ttL at hZL; rw [htt, h] at hZE hZL; exact ⟨hZE.symm, hZL.symm⟩
  have HRW : Hid (0 < ws.length → ∃ b off, a = some ⟨b, off, none⟩ ∧ b < w.heap.size ∧ BRow b off ws w) := Lib.hid fun h => by
    rcases hu with ⟨a2, c2, e, rfl⟩ | ⟨b, off, cap, e, h2, h3⟩
    · simp at h
    · injection e with e1 e2 e3
      exact ⟨b, off, e1, lt_of_cell (h2 0 h3), h2⟩
  have HNM : Hid (∀ W, Calls Tryz.prog 38 #[.string nm] W fun e w' => e = .returned (.bool true) ∧ W = w') := Lib.hid fun W => by
    have := lname_any nm hnz W
    rw [hnm] at this
    exact this
  have HT0 : Hid (typB 2 (ws.drop 0) = Z) := Lib.hid hZ
  have HO0 : Hid (([] : List Tok) = (ws.take 0).flatMap wo) := Lib.hid rfl
  obtain ⟨n, hn⟩ : ∃ n, ws.length = n := ⟨_, rfl⟩
  have HN := Lib.hid hn
  rw [hn]
  rw [hn] at hl
  have hl8 : ¬ (8 : Int) < (n : Int) := by omega
  clear hZE hZL hZ htt hu hnm hnz hn
  refine (callsIn_wide (n := 3)).1 ?_
  refine callsIn_of_wp_marks Tryz.func13 rfl trivial ?_ rfl
  simp only [Tryz.ntmps13, List.size_toArray, List.length_cons, List.length_nil, Nat.reduceAdd, Nat.reduceSub, Array.replicate_succ, Array.replicate_zero, List.push_toArray, List.append_toArray, List.nil_append, List.cons_append]
  refine wpIn_wide.2 ?_
  go_upto_region 1 with fail
  obtain ⟨w1, hw1⟩ : ∃ w1, w.alloc (.cells #[.string nm, .slice a n c] 25 (0, 0)) = w1 := ⟨_, rfl⟩
  have hb1 : Below w.heap.size w w1 := by rw [← hw1]; exact (Below.refl _ _).alloc (Nat.le_refl _) _
  have hz1 : w1.heap.size = w.heap.size + 1 := by rw [← hw1]; simp
  have k1 : w1.heap[w.heap.size]? = some (.cells #[.string nm, .slice a n c] 25 (0, 0)) := by rw [← hw1]; exact heap_new _ _ _ rfl
  obtain ⟨d0, d1, _, _⟩ := ref_cells k1
  rw [hw1]
  go_wp2_with fail
  refine (HNM.out w1).mono ?_; rintro e w2 ⟨rfl, rfl⟩
  go_upto_region 4 with fail
  obtain ⟨w2, hw2⟩ : ∃ w2, (w1.alloc (.cells #[.slice none 0 0] 78)).alloc (.cells #[.pointer (some ⟨w.heap.size + 1, 0, none⟩)] 76) = w2 := ⟨_, rfl⟩
  have HB2 : Hid (Below w.heap.size w w2) := Lib.hid (by rw [← hw2]; exact (hb1.alloc (by omega) _).alloc (by simp; omega) _)
  have HP2 : Hid (PutS (w.heap.size + 1) (.slice none 0 0) [] w2) := Lib.hid ⟨by rw [← hw2]; exact heap_old (heap_new _ _ _ (by omega)), OwnT.nil _ _⟩
  have HX2 : Hid (w2.heap[w.heap.size]? = some (.cells #[.string nm, .slice a n c] 25 (0, 0)) ∧ w2.heap[w.heap.size + 1 + 1]? = some (.cells #[.pointer (some ⟨w.heap.size + 1, 0, none⟩)] 76 (0, 0))) := Lib.hid ⟨by rw [← hw2]; exact heap_old (heap_old k1), by rw [← hw2]; exact heap_new _ _ _ (by simp; omega)⟩
  rw [hw2]
  clear hw1 hw2 hb1 hz1 k1 d0 d1
  obtain ⟨d0, d1, _, _⟩ := ref_cells HX2.out.1
  go_wp2_with fail
  go_loopg [5, 25] n (fun gk lv iv wr => ∃ (i : Nat) (lst : UInt8) (li : Int) (L1 : List Tok) (pv : Value), lv = .int .u8 li ∧ iv = .int .i64 (i : Int) ∧ (gk + i ≤ n ∧ n ≤ gk + i) ∧ Hid ((lst.toNat : Int) = li) ∧ Hid (PutS (w.heap.size + 1) pv L1 wr) ∧ Hid (Below w.heap.size w wr) ∧ Hid (wr.heap[w.heap.size]? = some (.cells #[.string nm, .slice a n c] 25 (0, 0)) ∧ wr.heap[w.heap.size + 1 + 1]? = some (.cells #[.pointer (some ⟨w.heap.size + 1, 0, none⟩)] 76 (0, 0))) ∧ Hid (typB lst (ws.drop i) = Z) ∧ Hid (L1 = (ws.take i).flatMap wo))
  case atStart => exact ⟨0, 2, 2, [], _, rfl, by go_num, ⟨by omega, by omega⟩, Lib.hid rfl, HP2, HB2, HX2, HT0, HO0⟩
  case round =>
    clear HP2 HB2 HX2 HO0 d0 d1
    rename World => wr
    obtain ⟨i, lst, li, L1, pv, rfl, rfl, ⟨hj, hj'⟩, HLI, HP, HB, HX, HTB, HL1⟩ := hrel
    have hLL : L1.length ≤ 8 := by
      rw [HL1.out]
      have key : ∀ l : List UInt8, (l.flatMap wo).length ≤ l.length := by
        intro l
        induction l with
        | nil => simp
        | cons x r ih =>
          rw [List.flatMap_cons, List.length_append, List.length_cons]
          have : (wo x).length ≤ 1 := by unfold wo; split <;> simp
          omega
      have := key (ws.take i)
      have h2 : (ws.take i).length ≤ ws.length := by rw [List.length_take]; omega
      have := HN.out
      omega
    by_cases hg0 : gk = 0
    · subst hg0
      have hin : i = n := by omega
      subst hin
      have hlt : ¬ (i : Int) < (i : Int) := by omega
      have hz : Z = true := by
        have := HTB.out
        rw [List.drop_of_length_le (by have := HN.out; omega)] at this
        exact this.symm
      obtain ⟨hZE, hZL⟩ := HQ.out hz
      obtain ⟨bs, hbs⟩ := typB_bits ws 2 (by have := HT0.out; rw [List.drop_zero, hz] at this; exact this)
      have hbl : i = bs.length := by have := HN.out; rw [hbs, List.length_map] at this; exact this.symm
      have HLF : Hid (ZE = 0 ∧ ZL = (L1 ++ [⟨1, nm.data.toList, 0⟩]) ++ bs.reverse.map wmk) := Lib.hid ⟨hZE, by
        rw [← hZL, HL1.out, List.take_of_length_le (by have := HN.out; omega), hbs, typK_bits, wo_bits]
        simp [nmT]⟩
      have HAO : Hid (0 < i → ∃ b off, a = some ⟨b, off, none⟩ ∧ b < w.heap.size ∧ ∀ j, j < i → w.cell? ⟨b, off + j, none⟩ = some (.int .u8 ((wz (bs[j]?.getD false)).toNat : Int))) := Lib.hid fun h => by
        obtain ⟨b, off, h1, h2, h3⟩ := HRW.out (by have := HN.out; omega)
        refine ⟨b, off, h1, h2, fun j hj => ?_⟩
        have hjw : j < ws.length := by have := HN.out; omega
        rw [h3 j hjw]
        have : ws[j] = wz (bs[j]?.getD false) := by
          have hjb : j < bs.length := by omega
          subst hbs
          simp [hjb]
        rw [this]
      have HBL := Lib.hid hbl
      clear hj hj' hz hZE hZL hbs hbl HRW HQ HNO HT0 HTB HL1
      obtain ⟨d0, d1, _, _⟩ := ref_cells HX.out.1
      have c4 : wr.cell? ⟨w.heap.size + 1 + 1, 0, none⟩ = some (.pointer (some ⟨w.heap.size + 1, 0, none⟩)) := by rw [Lib.cell_of_heap HX.out.2]; rfl
      have hzr := HB.out.size
      have hqr := HP.out.lt
      have hb4 : Below wr.heap.size wr (wr.alloc (.cells #[.string nm] 9 (0, 0))) := (Below.refl _ _).alloc (Nat.le_refl _) _
      have HP4 := Lib.hid (HP.out.below hb4)
      have HB4 := Lib.hid (HB.out.trans (hb4.mono hzr))
      have HX4 := Lib.hid (And.intro ((hb4.block _ (heap_lt HX.out.1)).trans HX.out.1) ((hb4.block _ (heap_lt HX.out.2)).trans HX.out.2))
      have hne4 : wr.heap.size ≠ w.heap.size + 1 := by omega
      clear hb4
      go_wp2_with fail
      refine (put_add (w.heap.size + 1) pv L1 1 1 rfl nm _ 1 _ HP4.out (new_cell0 _ _ _) hne4 (by omega)).mono ?_; rintro e w5 ⟨rfl, ⟨pv5, hx1⟩, hx2⟩
      have HP5 : Hid (PutS (w.heap.size + 1) pv5 (L1 ++ [⟨1, nm.data.toList, 0⟩]) w5) := Lib.hid hx1
      have HB5 : Hid (Below w.heap.size w w5) := Lib.hid (HB4.out.trans (hx2.1.mono (by omega)))
      have HX5 := Lib.hid (And.intro (hx2.2 _ _ HX4.out.1 (by omega)) (hx2.2 _ _ HX4.out.2 (by omega)))
      clear hx1 hx2 HP4 HB4 HX4 hne4 d0 d1 c4 hzr hqr HP HB HX
      obtain ⟨d0, d1, _, _⟩ := ref_cells HX5.out.1
      go_wp2_with fail
      refine (backward_c a i c w5).mono ?_; rintro e w6 ⟨rfl, hw6⟩
      have hb6 : Below w5.heap.size w5 w6 := by rw [hw6]; exact (Below.refl _ _).alloc (Nat.le_refl _) _
      have HBS : Hid (w6.cell? ⟨w5.heap.size, 0, none⟩ = some (.slice a i c)) := Lib.hid (by rw [hw6]; exact new_cell0 _ _ _)
      have HB6 : Hid (Below w.heap.size w w6) := Lib.hid (HB5.out.trans (hb6.mono HB5.out.size))
      have HP6 := Lib.hid (HP5.out.below hb6)
      have HX6 := Lib.hid ((hb6.block _ (heap_lt HX5.out.2)).trans HX5.out.2)
      have hqr := HP5.out.lt
      have hzr := HB5.out.size
      have hz56 := hb6.size
      clear hw6 hb6
      go_wp2_with fail
      have hz6 := HB6.out.size
      have hiz : i ≤ 1000000 := by omega
      have hne6 : w5.heap.size ≠ w.heap.size + 1 := by omega
      have hlen5 : (L1 ++ [(Tok.mk 1 nm.data.toList 0)]).length ≤ 9 := by simp; omega
      generalize L1 ++ [(Tok.mk 1 nm.data.toList 0)] = L5 at *
      refine rangeF2 (gf := 74) (lb := #[.pointer (some ⟨w5.heap.size, 0, none⟩)]) (ps := 9) (p := w.heap.size + 1) rfl (enters_of Tryz.func74 (by kernel_rfl) rfl)
        (back_stops Fence.wide (3 - 1) trivial rfl (by decide) w5.heap.size (w.heap.size + 1) a i c bs HBL.out hiz hne6 w6 HBS.out (fun h => by
          obtain ⟨b, off, h1, h2, h3⟩ := HAO.out h
          exact ⟨b, off, h1, by omega, fun j hj => (HB6.out.cell (p := ⟨b, off + j, none⟩) h2).trans (h3 j hj)⟩)) (Below.refl _ _)
        (fun pre W => (∃ v, PutS (w.heap.size + 1) v (L5 ++ pre.map (fun x => wmk x.2)) W) ∧ W.heap[w.heap.size + 1 + 1]? = some (.cells #[.pointer (some ⟨w.heap.size + 1, 0, none⟩)] 76 (0, 0)) ∧ Below w.heap.size w W)
        (fun s A B row hs hg hr => ⟨by obtain ⟨v, hv⟩ := hs.1; exact ⟨v, hv.kept hg (fun r e => (hr r e).2)⟩, (grownBy_keeps_cells hg (fun r e => (hr r e).2) hs.2.1 rfl).trans hs.2.1, (ownFrom_below (β := List (Nat × Bool)) (Nat.le_refl _) hz6) s A B row hs.2.2 hg hr⟩)
        ⟨⟨pv5, by simpa using HP6.out⟩, HX6.out, HB6.out⟩ ?assign ?body ?done
      case assign =>
        intro l x W K hK
        simp only [List.setIfInBounds_toArray, List.set_cons_zero, List.set_cons_succ] at hK ⊢
        gi_wp2
        exact hK
      case body =>
        rintro l pre ⟨q, bb⟩ W ⟨⟨v, hP⟩, hc4, hB⟩ hpl
        have HA : ∀ s : ByteArray, Hid (∀ (X : World) (lb cl : Nat), Below W.heap.size W X → X.cell? ⟨lb, 0, none⟩ = some (.string s) → W.heap.size ≤ lb → Calls Tryz.prog 39 #[.pointer (some ⟨w.heap.size + 1, 0, none⟩), .int .u8 4, .slice (some ⟨lb, 0, none⟩) 1 cl] X fun e w' => e = .returned (.tuple #[]) ∧ (∃ v', PutS (w.heap.size + 1) v' ((L5 ++ pre.map (fun x => wmk x.2)) ++ [⟨4, s.data.toList, 0⟩]) w') ∧ RK (w.heap.size + 1) W w') := fun s => Lib.hid fun X lb cl hX hl hlb => by
          have hq := hP.lt
          refine (put_add (w.heap.size + 1) v _ 4 4 rfl s lb cl X (hP.below hX) hl (by omega) (by rw [List.length_append, List.length_map]; omega)).mono ?_
          rintro e w' ⟨rfl, h1, h2⟩
          exact ⟨rfl, h1, (RK.of_below hX hq).trans h2⟩
        have HF : Hid (∀ w' : World, (∃ v', PutS (w.heap.size + 1) v' ((L5 ++ pre.map (fun x => wmk x.2)) ++ [wmk bb]) w') → RK (w.heap.size + 1) W w' → ownPostG w6.heap.size (KC (w.heap.size + 1)) (fun pre W => (∃ v, PutS (w.heap.size + 1) v (L5 ++ pre.map (fun x => wmk x.2)) W) ∧ W.heap[w.heap.size + 1 + 1]? = some (.cells #[.pointer (some ⟨w.heap.size + 1, 0, none⟩)] 76 (0, 0)) ∧ Below w.heap.size w W) (fun _ _ _ => False) (pre ++ [(q, bb)]) W .normal { tmps := #[], defers := [] } w') := Lib.hid fun w' h1 h2 => by
          refine ⟨⟨h2.1.size, fun k o hk ho hc => h2.2 k o ho (by omega)⟩, KC.of_rk h2, ?_, h2.2 _ _ hc4 (by omega), hB.trans (h2.1.mono (by omega))⟩
          · obtain ⟨v', h⟩ := h1
            exact ⟨v', by simpa using h⟩
        have c4 : W.cell? ⟨w.heap.size + 1 + 1, 0, none⟩ = some (.pointer (some ⟨w.heap.size + 1, 0, none⟩)) := by rw [Lib.cell_of_heap hc4]; rfl
        have hlt4 : w.heap.size + 1 + 1 < W.heap.size := heap_lt hc4
        have c4a : ∀ o, (W.alloc o).cell? ⟨w.heap.size + 1 + 1, 0, none⟩ = some (.pointer (some ⟨w.heap.size + 1, 0, none⟩)) := fun o => by
          rw [World.cell?_alloc_lt _ _ _ (by exact hlt4)]; exact c4
        simp only [List.setIfInBounds_toArray, List.set_cons_zero, List.set_cons_succ]
        have hd : 1 ≤ 3 - 1 - 1 := by decide
        have hmx : Tryz.prog.follows .mixedOrders = true := by kernel_rfl
        cases bb
        · have e1 : ((wz false).toNat : Int) = 1 := rfl
          simp only [e1]
          have HB := HA ⟨#[33]⟩
          have ix := fun w : World => (show (Instr.index 86 (.agg #[.string ⟨#[]⟩, .string ⟨#[33]⟩, .string ⟨#[93]⟩]) (.int .u8 1)).run Tryz.prog w = .ok (.string ⟨#[33]⟩) w by kernel_rfl)
          clear HA hP hc4 hB
          gi_wp2
          gi_region_with_o (refine ⟨trivial, ?_⟩; gi_at_call 39; refine (CallsIn.inRound l (callsIn_wide.2 (HB.out _ _ _ (below_dN 1 ((Below.refl _ _).alloc (Nat.le_refl _) _)) (new_cell0 _ _ _) (Nat.le_refl _)))).mono ?_; rintro e w7 ⟨rfl, h1, h2⟩)
          all_goals gi_wp2
          all_goals exact HF.out _ h1 h2
        · have e1 : ((wz true).toNat : Int) = 2 := rfl
          simp only [e1]
          have HB := HA ⟨#[93]⟩
          have ix := fun w : World => (show (Instr.index 86 (.agg #[.string ⟨#[]⟩, .string ⟨#[33]⟩, .string ⟨#[93]⟩]) (.int .u8 2)).run Tryz.prog w = .ok (.string ⟨#[93]⟩) w by kernel_rfl)
          clear HA hP hc4 hB
          gi_wp2
          gi_region_with_o (refine ⟨trivial, ?_⟩; gi_at_call 39; refine (CallsIn.inRound l (callsIn_wide.2 (HB.out _ _ _ (below_dN 1 ((Below.refl _ _).alloc (Nat.le_refl _) _)) (new_cell0 _ _ _) (Nat.le_refl _)))).mono ?_; rintro e w7 ⟨rfl, h1, h2⟩)
          all_goals gi_wp2
          all_goals exact HF.out _ h1 h2
      case done =>
        rintro D xs W hD rfl ⟨⟨v, hP⟩, hc4, hB⟩ hKD
        obtain ⟨a3, n3, c3, rfl⟩ := hP.2.slf
        have c4 : W.cell? ⟨w.heap.size + 1 + 1, 0, none⟩ = some (.pointer (some ⟨w.heap.size + 1, 0, none⟩)) := by rw [Lib.cell_of_heap hc4]; rfl
        have c5 := hP.cell
        have HPD := Lib.hid hP
        have HBD := Lib.hid hB
        have HBK := Lib.hid (bk_all bs)
        clear hP hB hc4
        go_wp2_with fail
        refine ⟨by simp, .inl ⟨_, _, rfl, run_takeDeferred hKD, ?_⟩⟩
        refine ⟨_, results_tmp2 rfl _ _ _, ⟨.slice a3 n3 c3, by rw [HLF.out.1]; rfl, ?_⟩, ?_⟩
        · rw [HLF.out.2]
          have h := (HPD.out.2.kept (grownBy_putObj' W D (.deferred none)) (fun r e => by cases e; exact ⟨_, hKD, rfl⟩)).lessU (B' := w.heap.size) (by omega)
          have e : (bk bs i).map (fun x => wmk x.2) = bs.reverse.map wmk := by
            rw [← HBK.out, HBL.out, List.map_map]; rfl
          rw [e] at h
          exact h
        · exact HBD.out.trans (belowK_b (w := w6) hz6 W D _ _ hD hKD rfl rfl)
    · obtain ⟨g1, rfl⟩ : ∃ g1, gk = g1 + 1 := ⟨gk - 1, by omega⟩
      have hil : i < ws.length := by have := HN.out; omega
      obtain ⟨b, off, rfl, hbw, hrow⟩ := HRW.out (by omega)
      have hx := (HB.out.cell (p := ⟨b, off + i, none⟩) hbw).trans (hrow i hil)
      have htb := HTB.out
      have hli := HLI.out
      rw [List.drop_eq_getElem_cons hil, typB_step] at htb
      have hl1 : L1 ++ wo (ws[i]'hil) = (ws.take (i + 1)).flatMap wo := by
        rw [List.take_succ_eq_append_getElem hil, List.flatMap_append, ← HL1.out]; simp
      generalize ws[i]'hil = x at hx htb hl1
      obtain ⟨xi, hxi⟩ : ∃ xi : Int, (x.toNat : Int) = xi := ⟨_, rfl⟩
      rw [hxi] at hx
      have i1 : (i : Int).toNat = i := by omega
      have i2 : (0 : Int) ≤ (i : Int) := by omega
      have i3 : (i : Int) < (n : Int) := by omega
      have i4 : IntKind.i64.wrap ((i : Int) + 1) = ((i + 1 : Nat) : Int) := by rw [IntWalk.i64_in _ (by omega)]; omega
      have HJJ := Lib.hid (And.intro hj hj')
      have c4 : wr.cell? ⟨w.heap.size + 1 + 1, 0, none⟩ = some (.pointer (some ⟨w.heap.size + 1, 0, none⟩)) := by rw [Lib.cell_of_heap HX.out.2]; rfl
      have hzr := HB.out.size
      have hqr := HP.out.lt
      clear hg0 hj hj' hrow hbw hil HRW HTB HL1 HLI
      by_cases hx2 : x = 2
      · subst hx2
        have hx3 : xi = 2 := by rw [← hxi]; rfl
        subst hx3
        have HTN : Hid (typB 2 (ws.drop (i + 1)) = Z) := Lib.hid (by rw [← htb]; rfl)
        have HLN : Hid (L1 ++ [⟨4, (⟨#[91]⟩ : ByteArray).data.toList, 0⟩] = (ws.take (i + 1)).flatMap wo) := Lib.hid hl1
        have hb4 : Below wr.heap.size wr (wr.alloc (.cells #[.string ⟨#[91]⟩] 9 (0, 0))) := (Below.refl _ _).alloc (Nat.le_refl _) _
        have HP4 := Lib.hid (HP.out.below hb4)
        have HB4 := Lib.hid (HB.out.trans (hb4.mono hzr))
        have HX4 := Lib.hid (And.intro ((hb4.block _ (heap_lt HX.out.1)).trans HX.out.1) ((hb4.block _ (heap_lt HX.out.2)).trans HX.out.2))
        have hne4 : wr.heap.size ≠ w.heap.size + 1 := by omega
        clear hb4 htb hl1 hxi hli
        go_wp2_with fail
        refine (put_add (w.heap.size + 1) pv L1 4 4 rfl ⟨#[91]⟩ _ 1 _ HP4.out (new_cell0 _ _ _) hne4 (by omega)).mono ?_; rintro e w5 ⟨rfl, ⟨pv5, hx1⟩, hx2⟩
        have HP5 := Lib.hid hx1
        have HB5 : Hid (Below w.heap.size w w5) := Lib.hid (HB4.out.trans (hx2.1.mono (by omega)))
        have HX5 := Lib.hid (And.intro (hx2.2 _ _ HX4.out.1 (by omega)) (hx2.2 _ _ HX4.out.2 (by omega)))
        clear hx1 hx2 HP4 HB4 HX4 hne4 c4
        go_wp2_with fail
        obtain ⟨hj, hj'⟩ := HJJ.out
        go_roundg g1
        case measure => omega
        case rel => exact ⟨i + 1, 2, 2, _, pv5, rfl, by first | rfl | go_num, ⟨by omega, by omega⟩, Lib.hid rfl, HP5, HB5, HX5, HTN, HLN⟩
      · by_cases hx1 : x = 1
        · subst hx1
          have hx3 : xi = 1 := by rw [← hxi]; rfl
          subst hx3
          by_cases hls : lst = 1
          · subst hls
            have hl3 : li = 1 := by rw [← hli]; rfl
            subst hl3
            have HF : Hid (ZE = 8 ∧ ZL = []) := Lib.hid (HNO.out (by rw [← htb]; rfl))
            clear htb hl1 hxi hli
            go_wp2_with fail
            (try simp only [Exit.inBlock, Exit.then])
            refine postM_ret (results_tmp2 rfl _ _ _) rfl ?_
            exact ⟨⟨.slice none 0 0, by rw [HF.out.1]; rfl, by rw [HF.out.2]; exact OwnT.nil _ _⟩, HB.out⟩
          · have hl3 : ¬ li = 1 := fun h => hls (UInt8.toNat_inj.1 (by have : ((1 : UInt8).toNat : Int) = 1 := rfl; omega))
            have hl4 : (li == 1) = false := by simpa using hl3
            have hlb : (lst == 1) = false := by simpa using hls
            have HTN : Hid (typB 1 (ws.drop (i + 1)) = Z) := Lib.hid (by rw [← htb, hlb]; rfl)
            have HLN : Hid (L1 = (ws.take (i + 1)).flatMap wo) := Lib.hid (by rw [← hl1]; simp [wo])
            clear htb hl1 hxi hli hls hlb
            go_wp2_with fail
            obtain ⟨hj, hj'⟩ := HJJ.out
            go_roundg g1
            case measure => omega
            case rel => exact ⟨i + 1, 1, 1, _, pv, rfl, by first | rfl | go_num, ⟨by omega, by omega⟩, Lib.hid rfl, HP, HB, HX, HTN, HLN⟩
        · have h1 : ¬ xi = 1 := fun h => hx1 (UInt8.toNat_inj.1 (by have : ((1 : UInt8).toNat : Int) = 1 := rfl; omega))
          have h2 : ¬ xi = 2 := fun h => hx2 (UInt8.toNat_inj.1 (by have : ((2 : UInt8).toNat : Int) = 2 := rfl; omega))
          have h1b : (xi == 1) = false := by simpa using h1
          have h2b : (xi == 2) = false := by simpa using h2
          have HF : Hid (ZE = 8 ∧ ZL = []) := Lib.hid (HNO.out (by
            rw [← htb, (by simpa using hx1 : (x == 1) = false), (by simpa using hx2 : (x == 2) = false)]; rfl))
          clear htb hl1 hxi hli hx1 hx2
          go_wp2_with fail
          (try simp only [Exit.inBlock, Exit.then])
          refine postM_ret (results_tmp2 rfl _ _ _) rfl ?_
          exact ⟨⟨.slice none 0 0, by rw [HF.out.1]; rfl, by rw [HF.out.2]; exact OwnT.nil _ _⟩, HB.out⟩
set_option maxRecDepth 100000 in
theorem tt_name (nm : ByteArray) (u : Value) (w : World) (HNM : Hid (∀ W, Calls Tryz.prog 38 #[.string nm] W fun e w' => e = .returned (.bool false) ∧ W = w')) :
    Calls Tryz.prog 13 #[.agg #[.string nm, u]] w fun e w' => e = .returned (.tuple #[.slice none 0 0, .int .i64 8]) ∧ Below w.heap.size w w' := by
  have HB : Hid (Below w.heap.size w (w.alloc (.cells #[.string nm, u] 25 (0, 0)))) := Lib.hid ((Below.refl _ _).alloc (Nat.le_refl _) _)
  refine (callsIn_wide (n := 3)).1 ?_
  refine callsIn_of_wp_marks Tryz.func13 rfl trivial ?_ rfl
  simp only [Tryz.ntmps13, List.size_toArray, List.length_cons, List.length_nil, Nat.reduceAdd, Nat.reduceSub, Array.replicate_succ, Array.replicate_zero, List.push_toArray, List.append_toArray, List.nil_append, List.cons_append]
  refine wpIn_wide.2 ?_
  go_wp2_with fail
  refine (HNM.out _).mono ?_; rintro e w2 ⟨rfl, rfl⟩
  go_wp2_with fail
  (try simp only [Exit.inBlock, Exit.then])
  refine postM_ret (results_tmp2 rfl _ _ _) rfl ?_
  exact ⟨rfl, HB.out⟩
set_option maxRecDepth 100000 in
theorem tt_long (nm : ByteArray) (a : Option Addr) (n c : Nat) (hn : (8 : Int) < (n : Int)) (w : World) (HNM : Hid (∀ W, Calls Tryz.prog 38 #[.string nm] W fun e w' => e = .returned (.bool true) ∧ W = w')) :
    Calls Tryz.prog 13 #[.agg #[.string nm, .slice a n c]] w fun e w' => e = .returned (.tuple #[.slice none 0 0, .int .i64 8]) ∧ Below w.heap.size w w' := by
  have HB : Hid (Below w.heap.size w (w.alloc (.cells #[.string nm, .slice a n c] 25 (0, 0)))) := Lib.hid ((Below.refl _ _).alloc (Nat.le_refl _) _)
  refine (callsIn_wide (n := 3)).1 ?_
  refine callsIn_of_wp_marks Tryz.func13 rfl trivial ?_ rfl
  simp only [Tryz.ntmps13, List.size_toArray, List.length_cons, List.length_nil, Nat.reduceAdd, Nat.reduceSub, Array.replicate_succ, Array.replicate_zero, List.push_toArray, List.append_toArray, List.nil_append, List.cons_append]
  refine wpIn_wide.2 ?_
  go_wp2_with fail
  refine (HNM.out _).mono ?_; rintro e w2 ⟨rfl, rfl⟩
  go_wp2_with fail
  (try simp only [Exit.inBlock, Exit.then])
  refine postM_ret (results_tmp2 rfl _ _ _) rfl ?_
  exact ⟨rfl, HB.out⟩
theorem tt_any (nm : ByteArray) (ws : List UInt8) (u : Value) (w : World) (hu : BSl u ws w) (hn : nm.size ≤ 1000000) (hw : ws.length ≤ 1000000) :
    Calls Tryz.prog 13 #[.agg #[.string nm, u]] w fun e w' => (∃ v, e = .returned (.tuple #[v, .int .i64 (ttE nm.data.toList ws)]) ∧ OwnT w.heap.size v (ttL nm.data.toList ws) w') ∧ Below w.heap.size w w' := by
  obtain ⟨a, c, rfl⟩ := hu.form
  have no : ttB nm.data.toList ws = false → ∀ e w', (e = Ending.returned (.tuple #[.slice none 0 0, .int .i64 8]) ∧ Below w.heap.size w w') → (∃ v, e = .returned (.tuple #[v, .int .i64 (ttE nm.data.toList ws)]) ∧ OwnT w.heap.size v (ttL nm.data.toList ws) w') ∧ Below w.heap.size w w' := by
    rintro h e w' ⟨rfl, hb⟩
    unfold ttE ttL
    rw [h]
    exact ⟨⟨_, rfl, OwnT.nil _ _⟩, hb⟩
  cases hnb : nameB nm.data.toList with
  | false =>
    refine (tt_name nm _ w (Lib.hid fun W => ?_)).mono (no (by unfold ttB; rw [hnb]; rfl))
    have := lname_any nm hn W
    rw [hnb] at this
    exact this
  | true =>
    by_cases hl : ws.length ≤ 8
    · exact tt_go nm hnb hn ws hl a c w hu
    · refine (tt_long nm a _ c (by omega) w (Lib.hid fun W => ?_)).mono (no (by unfold ttB; rw [hnb, decide_eq_false hl]; rfl))
      have := lname_any nm hn W
      rw [hnb] at this
      exact this
end Go.Proofs.YtgaknbnhmoddcaaGreatDoor
namespace Go.Proofs.YtgaknbnhmoddcaaGreatDoor
open Go.RowKit
/-- A slice's capacity holds its length. -/
def CapB (u : Value) : Prop := ∀ a n c, u = .slice a n c → n ≤ c
def prvB (ws : List UInt8) (i : Nat) : UInt8 := if i = 0 then 2 else ws.getD (i - 1) 2
set_option maxRecDepth 100000 in
set_option maxHeartbeats 4000000 in
theorem rmt_go (nm : ByteArray) (nb : Bool) (a : Option Addr) (c : Nat) (ws : List UInt8) (hl : ws.length ≤ 8) (w : World) (hu : BSl (.slice a ws.length c) ws w)
    (HNM : Hid (∀ W, Calls Tryz.prog 66 #[.string nm] W fun e w' => e = .returned (.bool nb) ∧ W = w')) :
    Calls Tryz.prog 41 #[.agg #[.string nm, .slice a ws.length c]] w fun e w' => e = .returned (.bool (nb && typB 2 ws)) ∧ Below w.heap.size w w' := by
  obtain ⟨Z, hZ⟩ : ∃ Z, typB 2 ws = Z := ⟨_, rfl⟩
  have HT0 : Hid (typB (prvB ws 0) (ws.drop 0) = Z) := Lib.hid hZ
  rw [hZ]
  have HRW : Hid (0 < ws.length → ∃ b off, a = some ⟨b, off, none⟩ ∧ b < w.heap.size ∧ BRow b off ws w) := Lib.hid fun h => by
    rcases hu with ⟨a2, c2, e, rfl⟩ | ⟨b, off, cap, e, h2, h3⟩
    · simp at h
    · injection e with e1 e2 e3
      exact ⟨b, off, e1, lt_of_cell (h2 0 h3), h2⟩
  obtain ⟨n, hn⟩ : ∃ n, ws.length = n := ⟨_, rfl⟩
  have HN := Lib.hid hn
  rw [hn] at hl ⊢
  have hl8 : (n : Int) ≤ 8 := by omega
  clear hu hZ hn
  go_enter Tryz.func41, Tryz.ntmps41
  go_upto_region 1 with fail
  obtain ⟨w1, hw1⟩ : ∃ w1, w.alloc (.cells #[.string nm, .slice a n c] 25 (0, 0)) = w1 := ⟨_, rfl⟩
  have HB1 : Hid (Below w.heap.size w w1) := Lib.hid (by rw [← hw1]; exact (Below.refl _ _).alloc (Nat.le_refl _) _)
  have k1 : w1.heap[w.heap.size]? = some (.cells #[.string nm, .slice a n c] 25 (0, 0)) := by rw [← hw1]; exact heap_new _ _ _ rfl
  obtain ⟨d0, d1, _, _⟩ := ref_cells k1
  rw [hw1]
  clear hw1 k1
  go_wp2_with fail
  go_loopg [3] (n + 1) (fun gk iv wr => ∃ i : Nat, iv = .int .i64 (i : Int) ∧ (gk + i ≤ n + 1 ∧ n + 1 ≤ gk + i) ∧ i ≤ n ∧ Hid (typB (prvB ws i) (ws.drop i) = Z) ∧ wr = w1)
  case atStart => exact ⟨0, by go_num, ⟨by omega, by omega⟩, by omega, HT0, rfl⟩
  case round =>
    clear HT0
    rename World => wr
    obtain ⟨i, rfl, ⟨hj, hj'⟩, hin, HTB, rfl⟩ := hrel
    obtain ⟨g1, rfl⟩ : ∃ g1, gk = g1 + 1 := ⟨gk - 1, by omega⟩
    by_cases hge : i = n
    · subst hge
      have hlt : ¬ (i : Int) < (i : Int) := by omega
      have hz : Z = true := by
        have := HTB.out
        rw [List.drop_of_length_le (by have := HN.out; omega)] at this
        exact this.symm
      have HZ := Lib.hid hz
      clear hz hj hj'
      go_wp2_with fail
      refine (HNM.out _).mono ?_; rintro e w2 ⟨rfl, rfl⟩
      go_wp2_with fail
      go_ret
      exact ⟨ret_b (by rw [HZ.out, Bool.and_true]), HB1.out⟩
    · have hil : i < ws.length := by have := HN.out; omega
      obtain ⟨b, off, rfl, hbw, hrow⟩ := HRW.out (by omega)
      have hx := (HB1.out.cell (p := ⟨b, off + i, none⟩) hbw).trans (hrow i hil)
      have htb := HTB.out
      rw [List.drop_eq_getElem_cons hil, typB_step] at htb
      have hnx : prvB ws (i + 1) = ws[i]'hil := by
        unfold prvB
        rw [if_neg (by omega), Nat.add_sub_cancel, List.getD_eq_getElem?_getD, List.getElem?_eq_getElem hil]; rfl
      have HPV : Hid (∀ k, i = k + 1 → ∃ y : UInt8, prvB ws i = y ∧ wr.cell? ⟨b, off + k, none⟩ = some (.int .u8 (y.toNat : Int))) := Lib.hid fun k hk => by
        have hkl : k < ws.length := by omega
        refine ⟨ws[k], ?_, (HB1.out.cell (p := ⟨b, off + k, none⟩) hbw).trans (hrow k hkl)⟩
        unfold prvB
        rw [if_neg (by omega), show i - 1 = k by omega, List.getD_eq_getElem?_getD, List.getElem?_eq_getElem hkl]; rfl
      have hp0 : i = 0 → prvB ws i = 2 := fun h => by unfold prvB; rw [if_pos h]
      have HP0 := Lib.hid hp0
      generalize ws[i]'hil = x at hx htb hnx
      obtain ⟨xi, hxi⟩ : ∃ xi : Int, (x.toNat : Int) = xi := ⟨_, rfl⟩
      rw [hxi] at hx
      have i1 : (i : Int).toNat = i := by omega
      have i2 : (0 : Int) ≤ (i : Int) := by omega
      have i3 : (i : Int) < (n : Int) := by omega
      have i4 : IntKind.i64.wrap ((i : Int) + 1) = ((i + 1 : Nat) : Int) := by rw [IntWalk.i64_in _ (by omega)]; omega
      have HJJ := Lib.hid (And.intro hj hj')
      have HNX := Lib.hid hnx
      have hin2 : i + 1 ≤ n := by omega
      clear hj hj' hrow hbw hil HRW HTB hp0 hnx hge
      generalize prvB ws i = lst at *
      have HON : (typB x (ws.drop (i + 1)) = Z) → Hid (typB (prvB ws (i + 1)) (ws.drop (i + 1)) = Z) := fun h => Lib.hid (by rw [HNX.out]; exact h)
      by_cases hx2 : x = 2
      · subst hx2
        have hx3 : xi = 2 := by rw [← hxi]; rfl
        subst hx3
        have HTN := HON (by rw [← htb]; rfl)
        clear htb hxi HON
        by_cases hi0 : i = 0
        · have h00 : ¬ (0 : Int) < (i : Int) := by omega
          clear hi0
          go_wp2_with fail
          obtain ⟨hj, hj'⟩ := HJJ.out
          go_roundg g1
          case measure => omega
          case rel => exact ⟨i + 1, by first | rfl | go_num, ⟨by omega, by omega⟩, hin2, HTN, rfl⟩
        · have h00 : (0 : Int) < (i : Int) := by omega
          go_wp2_with fail
          obtain ⟨hj, hj'⟩ := HJJ.out
          go_roundg g1
          case measure => omega
          case rel => exact ⟨i + 1, by first | rfl | go_num, ⟨by omega, by omega⟩, hin2, HTN, rfl⟩
      · by_cases hx1 : x = 1
        · subst hx1
          have hx3 : xi = 1 := by rw [← hxi]; rfl
          subst hx3
          by_cases hi0 : i = 0
          · have h00 : ¬ (0 : Int) < (i : Int) := by omega
            have hl2 := HP0.out hi0
            have HTN := HON (by rw [← htb, hl2]; rfl)
            clear htb hxi HON hl2 hi0
            go_wp2_with fail
            obtain ⟨hj, hj'⟩ := HJJ.out
            go_roundg g1
            case measure => omega
            case rel => exact ⟨i + 1, by first | rfl | go_num, ⟨by omega, by omega⟩, hin2, HTN, rfl⟩
          · have h00 : (0 : Int) < (i : Int) := by omega
            obtain ⟨k, hk⟩ : ∃ k, i = k + 1 := ⟨i - 1, by omega⟩
            obtain ⟨y, hy, hyc⟩ := HPV.out k hk
            obtain ⟨yi, hyi⟩ : ∃ yi : Int, (y.toNat : Int) = yi := ⟨_, rfl⟩
            rw [hyi] at hyc
            subst hy
            have j1 : IntKind.i64.wrap ((i : Int) - 1) = (k : Int) := by rw [IntWalk.i64_in _ (by omega)]; omega
            have j2 : (k : Int).toNat = k := by omega
            have j3 : (0 : Int) ≤ (k : Int) := by omega
            have j4 : (k : Int) < (n : Int) := by omega
            by_cases hls : lst = 1
            · subst hls
              have hy1 : yi = 1 := by rw [← hyi]; rfl
              subst hy1
              have HF : Hid (Z = false) := Lib.hid (by rw [← htb]; rfl)
              clear htb hxi HON hyi hk hi0
              go_wp2_with fail
              go_ret
              exact ⟨ret_b (by rw [HF.out, Bool.and_false]), HB1.out⟩
            · have hy1 : ¬ yi = 1 := fun h => hls (UInt8.toNat_inj.1 (by have : ((1 : UInt8).toNat : Int) = 1 := rfl; omega))
              have hyb : (yi == 1) = false := by simpa using hy1
              have hlb : (lst == 1) = false := by simpa using hls
              have HTN := HON (by rw [← htb, hlb]; rfl)
              clear htb hxi HON hyi hls hlb hk hi0
              go_wp2_with fail
              obtain ⟨hj, hj'⟩ := HJJ.out
              go_roundg g1
              case measure => omega
              case rel => exact ⟨i + 1, by first | rfl | go_num, ⟨by omega, by omega⟩, hin2, HTN, rfl⟩
        · have h1 : ¬ xi = 1 := fun h => hx1 (UInt8.toNat_inj.1 (by have : ((1 : UInt8).toNat : Int) = 1 := rfl; omega))
          have h2 : ¬ xi = 2 := fun h => hx2 (UInt8.toNat_inj.1 (by have : ((2 : UInt8).toNat : Int) = 2 := rfl; omega))
          have h1b : (xi == 1) = false := by simpa using h1
          have h2b : (xi == 2) = false := by simpa using h2
          have HF : Hid (Z = false) := Lib.hid (by
            rw [← htb, (by simpa using hx1 : (x == 1) = false), (by simpa using hx2 : (x == 2) = false)]; rfl)
          clear htb hxi HON hx1 hx2
          go_wp2_with fail
          go_ret
          exact ⟨ret_b (by rw [HF.out, Bool.and_false]), HB1.out⟩
set_option maxRecDepth 100000 in
theorem rmt_long (nm : ByteArray) (a : Option Addr) (n c : Nat) (hn : ¬ (n : Int) ≤ 8) (w : World) :
    Calls Tryz.prog 41 #[.agg #[.string nm, .slice a n c]] w fun e w' => e = .returned (.bool false) ∧ Below w.heap.size w w' := by
  have h0 : (0 : Int) < (n : Int) := by omega
  have HB : Hid (Below w.heap.size w (w.alloc (.cells #[.string nm, .slice a n c] 25 (0, 0)))) := Lib.hid ((Below.refl _ _).alloc (Nat.le_refl _) _)
  go_enter Tryz.func41, Tryz.ntmps41
  go_wp2_with fail
  refine wp_loop_rounds 1 ?_; rw [rounds_succ]
  go_wp2_with fail
  go_ret
  exact ⟨rfl, HB.out⟩
theorem rmt_any (nm : ByteArray) (ws : List UInt8) (u : Value) (w : World) (hu : BSl u ws w) (hn : nm.size ≤ 1000000) :
    Calls Tryz.prog 41 #[.agg #[.string nm, u]] w fun e w' => e = .returned (.bool (ttB nm.data.toList ws)) ∧ Below w.heap.size w w' := by
  obtain ⟨a, c, rfl⟩ := hu.form
  unfold ttB
  by_cases hl : ws.length ≤ 8
  · rw [decide_eq_true hl, Bool.true_and]
    exact rmt_go nm _ a c ws hl w hu (Lib.hid fun W => rname_any nm hn W)
  · rw [decide_eq_false hl, Bool.false_and, Bool.and_false]
    exact rmt_long nm a _ c (by omega) w
set_option maxRecDepth 100000 in
theorem oft_nil (nm : ByteArray) (a : Option Addr) (c : Nat) (w : World) :
    Calls Tryz.prog 42 #[.agg #[.string nm, .slice a 0 c]] w (OfS [nmT nm.data.toList] w) := by
  go_enter Tryz.func42, Tryz.ntmps42
  go_wp2_with fail
  refine (rname18 _ _).mono ?_; rintro e w1 ⟨rfl, hb⟩
  have HB1 : Hid (Below w.heap.size w w1) := Lib.hid (((Below.refl _ _).alloc (Nat.le_refl _) _).trans (hb.mono (by simp)))
  clear hb
  go_wp2_with fail
  go_ret
  exact ⟨⟨_, rfl, (OwnT.one 1 1 rfl nm _).lessU HB1.out.size⟩, HB1.out.alloc HB1.out.size _⟩
set_option maxRecDepth 100000 in
set_option maxHeartbeats 4000000 in
theorem oft_cons (nm : ByteArray) (b off n c : Nat) (x : UInt8) (hx : x = 1 ∨ x = 2) (r : List UInt8) (hn : n = r.length + 1) (hnc : n ≤ c) (hl : n ≤ 8) (w : World) (hr : BRow b off (x :: r) w) (ax : Option Addr) (hax : (if c = 1 then some (⟨b, off, none⟩ : Addr) else some ⟨b, off + 1, none⟩) = ax)
    (HI : Hid (∀ W, Below w.heap.size w W → Calls Tryz.prog 42 #[.agg #[.string nm, .slice ax (n - 1) (c - 1)]] W (OfS (typK nm.data.toList r) W))) :
    Calls Tryz.prog 42 #[.agg #[.string nm, .slice (some ⟨b, off, none⟩) n c]] w (OfS (typK nm.data.toList (x :: r)) w) := by
  have hx0 : w.cell? ⟨b, off, none⟩ = some (.int .u8 (x.toNat : Int)) := hr 0 (by simp)
  have hbw := lt_of_cell hx0
  have HTL : Hid ((typK nm.data.toList r).length ≤ 17) := Lib.hid (by have := typK_len nm.data.toList r; omega)
  have HTK : Hid ((x = 1 → typK nm.data.toList (x :: r) = typK nm.data.toList r ++ [mkT [33]]) ∧ (x = 2 → typK nm.data.toList (x :: r) = ([mkT [91]] ++ typK nm.data.toList r) ++ [mkT [93]])) := Lib.hid ⟨fun h => by subst h; rfl, fun h => by subst h; rfl⟩
  generalize typK nm.data.toList (x :: r) = T1 at *
  generalize typK nm.data.toList r = T0 at *
  obtain ⟨xi, hxi⟩ : ∃ xi : Int, (x.toNat : Int) = xi := ⟨_, rfl⟩
  rw [hxi] at hx0
  have h1 : ¬ (n : Int) = 0 := by omega
  have h2 : (1 : Int) ≤ (n : Int) := by omega
  have h3 : (n : Int) ≤ (c : Int) := by omega
  have h4 : (0 : Int) < (n : Int) := by omega
  have h5 : 1 ≤ n := by omega
  have hb0 : ((n : Int) == 0) = false := by simpa using h1
  have HN := Lib.hid hn
  clear hr hn
  go_enter Tryz.func42, Tryz.ntmps42
  go_upto_region 1 with fail
  obtain ⟨w1, hw1⟩ : ∃ w1, w.alloc (.cells #[.string nm, .slice (some ⟨b, off, none⟩) n c] 25 (0, 0)) = w1 := ⟨_, rfl⟩
  have HB1 : Hid (Below w.heap.size w w1) := Lib.hid (by rw [← hw1]; exact (Below.refl _ _).alloc (Nat.le_refl _) _)
  have HQ1 : Hid (w1.heap[w.heap.size]? = some (.cells #[.string nm, .slice (some ⟨b, off, none⟩) n c] 25 (0, 0))) := Lib.hid (by rw [← hw1]; exact heap_new _ _ _ rfl)
  obtain ⟨d0, d1, _, _⟩ := ref_cells HQ1.out
  rw [hw1]
  clear hw1
  go_upto_region 3 with fail
  go_cut [3] (fun s wx => ∃ v3, s = v3 ∧ Hid (OwnT w.heap.size v3 T0 wx) ∧ Hid (Below w.heap.size w wx) ∧ Hid (wx.heap[w.heap.size]? = some (.cells #[.string nm, .slice (some ⟨b, off, none⟩) n c] 25 (0, 0))))
  case first =>
    have HBd : Hid (Below w.heap.size w w1.drew) := Lib.hid HB1.out.drew
    have HI1 := Lib.hid (HI.out w1.drew HBd.out)
    go_region_with (refine HI1.out.mono ?_; rintro e w2 ⟨⟨v3, rfl, ho⟩, hb⟩)
    all_goals
      have HO2 := Lib.hid (ho.lessU (B' := w.heap.size) HB1.out.size)
      have HB2 : Hid (Below w.heap.size w w2) := Lib.hid (HBd.out.trans (hb.mono HBd.out.size))
      have HQ2 : Hid (w2.heap[w.heap.size]? = some (.cells #[.string nm, .slice (some ⟨b, off, none⟩) n c] 25 (0, 0))) := Lib.hid ((hb.block _ (heap_lt HQ1.out)).trans HQ1.out)
      clear ho hb
      go_wp2_with fail
      go_meet
      exact ⟨_, rfl, HO2, HB2, HQ2⟩
  case rest =>
    obtain ⟨v3, hv3, HO2, HB2, HQ2⟩ := hcut
    rw [hv3]
    clear hv3
    obtain ⟨w2, hw2⟩ : ∃ w2, wc = w2 := ⟨_, rfl⟩
    rw [hw2] at HO2 HB2 HQ2 ⊢
    clear hw2 HQ1 HB1 d0 d1 HI
    obtain ⟨d0, d1, _, _⟩ := ref_cells HQ2.out
    have hx2 : w2.cell? ⟨b, off, none⟩ = some (.int .u8 xi) := (HB2.out.cell (p := ⟨b, off, none⟩) hbw).trans hx0
    clear hx0
    rcases hx with hx1 | hx1
    · have hxe : xi = 1 := by rw [← hxi, hx1]; rfl
      subst hxe
      have HT := Lib.hid (HTK.out.1 hx1)
      clear hxi hx1
      go_wp2_with fail
      refine (rmark18 _ _).mono ?_; rintro e w3 ⟨rfl, hb⟩
      have HO3 := Lib.hid (HO2.out.below hb)
      have HB3 : Hid (Below w.heap.size w w3) := Lib.hid (HB2.out.trans (hb.mono HB2.out.size))
      clear hb
      go_wp2_with (at_builtin; refine wpList_appT rfl _ _ rfl w.heap.size v3 (.slice (some ⟨w3.heap.size, 0, none⟩) 1 1) T0 [mkT [33]] rfl (HO3.out.alloc (.cells _ 72)) rfl (OwnT.one 4 4 rfl ⟨#[33]⟩ w3).sl ?c1 ?c2 ?_)
      case c1 => have := HTL.out; simp; omega
      case c2 => have := HB3.out.size; simp; omega
      intro v4 w4 ho hg
      have HB4 : Hid (Below w.heap.size w w4) := Lib.hid ((HB3.out.alloc HB3.out.size _).trans (OwnT.grow (HO3.out.alloc _) hg (Nat.le_refl _) (by have := HB3.out.size; simp; omega)))
      have HO4 := Lib.hid ho
      clear ho hg
      go_wp2_with fail
      go_ret
      exact ⟨⟨_, rfl, by rw [HT.out]; exact HO4.out⟩, HB4.out⟩
    · have hxe : xi = 2 := by rw [← hxi, hx1]; rfl
      subst hxe
      have HT := Lib.hid (HTK.out.2 hx1)
      clear hxi hx1
      go_wp2_with fail
      refine (rmark18 _ _).mono ?_; rintro e w3 ⟨rfl, hb⟩
      have HO3 := Lib.hid (HO2.out.below hb)
      have HB3 : Hid (Below w.heap.size w w3) := Lib.hid (HB2.out.trans (hb.mono HB2.out.size))
      clear hb
      go_wp2_with (at_builtin; refine wpList_appT rfl _ _ rfl w3.heap.size (.slice (some ⟨w3.heap.size, 0, none⟩) 1 1) v3 [mkT [91]] T0 rfl (OwnT.one 4 4 rfl ⟨#[91]⟩ w3) rfl (HO3.out.alloc (.cells _ 72)).sl ?c1 ?c2 ?_)
      case c1 => have := HTL.out; simp; omega
      case c2 => simp
      intro v4 w4 ho hg
      have HB4 : Hid (Below w.heap.size w w4) := Lib.hid ((HB3.out.alloc HB3.out.size _).trans ((OwnT.grow (OwnT.one 4 4 rfl ⟨#[91]⟩ w3) hg (Nat.le_refl _) (by simp)).mono HB3.out.size))
      have HO4 := Lib.hid (ho.lessU (B' := w.heap.size) HB3.out.size)
      clear ho hg
      go_wp2_with fail
      refine (rmark18 _ _).mono ?_; rintro e w5 ⟨rfl, hb⟩
      have HO5 := Lib.hid (HO4.out.below hb)
      have HB5 : Hid (Below w.heap.size w w5) := Lib.hid (HB4.out.trans (hb.mono HB4.out.size))
      clear hb
      go_wp2_with (at_builtin; refine wpList_appT rfl _ _ rfl w.heap.size v4 (.slice (some ⟨w5.heap.size, 0, none⟩) 1 1) _ [mkT [93]] rfl (HO5.out.alloc (.cells _ 72)) rfl (OwnT.one 4 4 rfl ⟨#[93]⟩ w5).sl ?c1 ?c2 ?_)
      case c1 => have := HTL.out; simp; omega
      case c2 => have := HB5.out.size; simp; omega
      intro v6 w6 ho hg
      have HB6 : Hid (Below w.heap.size w w6) := Lib.hid ((HB5.out.alloc HB5.out.size _).trans (OwnT.grow (HO5.out.alloc _) hg (Nat.le_refl _) (by have := HB5.out.size; simp; omega)))
      have HO6 := Lib.hid ho
      clear ho hg
      go_wp2_with fail
      go_ret
      exact ⟨⟨_, rfl, by rw [HT.out]; exact HO6.out⟩, HB6.out⟩
theorem oft_any (nm : ByteArray) : ∀ (ws : List UInt8) (u : Value) (w : World), BSl u ws w → CapB u → (∀ x ∈ ws, x = 1 ∨ x = 2) → ws.length ≤ 8 →
    Calls Tryz.prog 42 #[.agg #[.string nm, u]] w (OfS (typK nm.data.toList ws) w) := by
  intro ws
  induction ws with
  | nil =>
    intro u w hu _ _ _
    rcases hu with ⟨a, c, rfl, _⟩ | ⟨b, off, cap, rfl, _, h⟩
    · exact oft_nil nm a c w
    · simp at h
  | cons x r ih =>
    intro u w hu hc hx hl
    rcases hu with ⟨a, c, _, h⟩ | ⟨b, off, cap, rfl, hr, _⟩
    · cases h
    · have hnc := hc _ _ _ rfl
      refine oft_cons nm b off _ cap x (hx x (by simp)) r rfl hnc hl w hr _ rfl (Lib.hid fun W hW => ?_)
      refine ih _ W ?_ ?_ (fun y hy => hx y (by simp [hy])) (by simp at hl; omega)
      · have hne : r.length + 1 - 1 = r.length := by omega
        show BSl (.slice _ (r.length + 1 - 1) (cap - 1)) r W
        rw [hne]
        by_cases h0 : r = []
        · subst h0
          exact Or.inl ⟨_, _, rfl, rfl⟩
        · have hrp := List.length_pos_iff.2 h0
          rw [if_neg (by rw [List.length_cons] at hnc; omega)]
          refine Or.inr ⟨b, off + 1, _, rfl, ?_, hrp⟩
          intro i hi
          have := (hr.below hW) (i + 1) (by simp; omega)
          rw [List.getElem_cons_succ] at this
          rw [show off + 1 + i = off + (i + 1) from by omega]
          exact this
      · intro a n c e
        injection e with _ e2 e3
        have h6 : r.length + 1 ≤ cap := hnc
        have h7 : r.length + 1 - 1 = n := e2
        omega
set_option maxRecDepth 100000 in
theorem rtt_any (nm : ByteArray) (ws : List UInt8) (u : Value) (w : World) (hu : BSl u ws w) (hc : CapB u) (hn : nm.size ≤ 1000000) :
    Calls Tryz.prog 14 #[.agg #[.string nm, u]] w fun e w' => (∃ v, e = .returned (.tuple #[v, .int .i64 (ttE nm.data.toList ws)]) ∧ OwnT w.heap.size v (ttL nm.data.toList ws) w') ∧ Below w.heap.size w w' := by
  have HM : Hid (∀ W, Below w.heap.size w W → Calls Tryz.prog 41 #[.agg #[.string nm, u]] W fun e w' => e = .returned (.bool (ttB nm.data.toList ws)) ∧ Below W.heap.size W w') := Lib.hid fun W hW => rmt_any nm ws u W (hu.below hW) hn
  have HO : Hid (ttB nm.data.toList ws = true → ∀ W, Below w.heap.size w W → Calls Tryz.prog 42 #[.agg #[.string nm, u]] W (OfS (typK nm.data.toList ws) W)) := Lib.hid fun h W hW => by
    unfold ttB at h
    simp only [Bool.and_eq_true, decide_eq_true_eq] at h
    obtain ⟨bs, hbs⟩ := typB_bits ws 2 h.2.2
    refine oft_any nm ws u W (hu.below hW) hc (fun x hx => ?_) h.2.1
    rw [hbs] at hx
    obtain ⟨y, _, rfl⟩ := List.mem_map.1 hx
    cases y
    · exact Or.inl rfl
    · exact Or.inr rfl
  obtain ⟨a, c, rfl⟩ := hu.form
  unfold ttE ttL
  have HB1 : Hid (Below w.heap.size w (w.alloc (.cells #[.string nm, .slice a ws.length c] 25 (0, 0)))) := Lib.hid ((Below.refl _ _).alloc (Nat.le_refl _) _)
  clear hu hc
  generalize typK nm.data.toList ws = tk at *
  cases hb : ttB nm.data.toList ws with
  | false =>
    rw [hb] at HM
    clear hb HO
    go_enter Tryz.func14, Tryz.ntmps14
    go_wp2_with fail
    refine (HM.out _ HB1.out).mono ?_; rintro e w2 ⟨rfl, hb⟩
    have HB : Hid (Below w.heap.size w w2) := Lib.hid (HB1.out.trans (hb.mono HB1.out.size))
    clear hb
    go_wp2_with fail
    go_ret2
    exact ⟨⟨_, rfl, OwnT.nil _ _⟩, HB.out⟩
  | true =>
    have HO2 := Lib.hid (HO.out hb)
    rw [hb] at HM
    clear hb HO
    go_enter Tryz.func14, Tryz.ntmps14
    go_upto_region 1 with fail
    obtain ⟨w1, hw1⟩ : ∃ w1, w.alloc (.cells #[.string nm, .slice a ws.length c] 25 (0, 0)) = w1 := ⟨_, rfl⟩
    rw [hw1] at HB1
    have HQ1 : Hid (w1.heap[w.heap.size]? = some (.cells #[.string nm, .slice a ws.length c] 25 (0, 0))) := Lib.hid (by rw [← hw1]; exact heap_new _ _ _ rfl)
    obtain ⟨d0, d1, _, _⟩ := ref_cells HQ1.out
    rw [hw1]
    clear hw1
    go_wp2_with fail
    refine (HM.out _ HB1.out).mono ?_; rintro e w2 ⟨rfl, hb⟩
    have HB : Hid (Below w.heap.size w w2) := Lib.hid (HB1.out.trans (hb.mono HB1.out.size))
    obtain ⟨d2, d3, _, _⟩ := ref_cells ((hb.block _ (heap_lt HQ1.out)).trans HQ1.out)
    clear hb d0 d1
    go_wp2_with fail
    refine (HO2.out w2 HB.out).mono ?_; rintro e w3 ⟨⟨v, rfl, ho⟩, hb⟩
    have HB3 : Hid (Below w.heap.size w w3) := Lib.hid (HB.out.trans (hb.mono HB.out.size))
    have HO3 := Lib.hid (ho.lessU HB.out.size)
    clear hb ho
    go_wp2_with fail
    go_ret2
    exact ⟨⟨_, rfl, HO3.out⟩, HB3.out⟩
end Go.Proofs.YtgaknbnhmoddcaaGreatDoor
namespace Go.Proofs.YtgaknbnhmoddcaaGreatDoor
open Go.RowKit
theorem xsl_form {α : Type} {Sl : Value → α → World → Prop} {u : Value} {L : List (List UInt8 × α)} {w : World} (h : XSl Sl u L w) : ∃ a n c, u = .slice a n c := by
  rcases h with ⟨a, c, e, _⟩ | ⟨b, off, c, e, _⟩
  · exact ⟨_, _, _, e⟩
  · exact ⟨_, _, _, e⟩
theorem args_sm {A : List (List UInt8 × List Cel)} (hA : ArgB A) (hg : greatAB A = false) : ArgsSm A ∧ roomA A ≤ 5000 ∧ A.length ≤ 20 ∧ (∀ x ∈ A, x.1.length ≤ 100000 ∧ CelS x.2 ∧ NumB x.2 ∧ x.2.length ≤ 60) := by
  obtain ⟨h1, h2⟩ := greatAB_parts hg
  have key : ∀ x ∈ A, x.1.length ≤ 300 ∧ x.2.length ≤ 60 ∧ ∀ c ∈ x.2, c.name.length ≤ 300 ∧ c.text.length ≤ 3000 ∧ R c.num ∧ R c.many := fun x hx => by
    obtain ⟨p1, p2⟩ := greatV_parts (h2 x hx).1
    refine ⟨(h2 x hx).2, p1, fun c hc => ?_⟩
    obtain ⟨q1, q2⟩ := p2 c hc
    obtain ⟨_, _, q3, q4⟩ := (hA.2 x hx).2.2 c hc
    exact ⟨q1, q2, q3, q4⟩
  refine ⟨⟨by omega, fun x hx => ?_⟩, ?_, h1, fun x hx => ?_⟩
  · obtain ⟨k1, k2, k3⟩ := key x hx
    refine ⟨by omega, by omega, fun c hc => ?_⟩
    obtain ⟨m1, m2, m3, m4⟩ := k3 c hc
    exact ⟨by omega, by omega, m3, m4⟩
  · have := roomA_le A fun x hx => (key x hx).2.1
    omega
  · obtain ⟨k1, k2, k3⟩ := key x hx
    refine ⟨by omega, fun c hc => ?_, fun c hc => ?_, k2⟩
    · obtain ⟨m1, m2, m3, m4⟩ := k3 c hc
      exact ⟨by omega, by omega, m3⟩
    · obtain ⟨m1, m2, m3, m4⟩ := k3 c hc
      exact ⟨m3.1, m3.2⟩
end Go.Proofs.YtgaknbnhmoddcaaGreatDoor
namespace Go.Proofs.YtgaknbnhmoddcaaGreatDoor
open Go.RowKit
set_option maxRecDepth 100000 in
theorem rtwin03_any (V : List Cel) (v : Value) (w : World) (hv : CelSl v V w) (hl : V.length ≤ 100000) :
    Calls Tryz.prog 10 #[v] w fun e w' => ∃ u, e = .returned u ∧ CelSl u V w' ∧ Below w.heap.size w w' := by
  go_enter Tryz.func10, Tryz.ntmps10
  go_wp2_with (at_builtin; refine wpList_appC rfl _ _ rfl w.heap.size (.slice none 0 0) v [] V rfl (OwnC.nil _ _) rfl hv ?c2 ?c3 ?_)
  case c2 => simp; omega
  case c3 => exact Nat.le_refl _
  intro v' w2 hown' hgrow
  have hbw : Below w.heap.size w w2 := (Below.refl _ _).grown hgrow (by simp) (by intro k hk; simp [Value.ownBlock] at hk)
  have hsl := hown'.sl
  clear hown' hgrow
  go_wp2_with fail
  go_ret
  exact ⟨_, rfl, hsl, hbw⟩
end Go.Proofs.YtgaknbnhmoddcaaGreatDoor
namespace Go.Proofs.YtgaknbnhmoddcaaGreatDoor
open Go.RowKit
set_option maxRecDepth 100000 in
set_option maxHeartbeats 4000000 in
theorem lt_great (nm : ByteArray) (ta : Option Addr) (tn tc : Nat) (vu au du : Value) (w : World) (g1 g2 g3 : Bool) (hgr : (g1 || decide ((300 : Int) < (nm.size : Int)) || decide ((20 : Int) < (tn : Int)) || g2 || g3) = true)
    (HG1 : Hid (∀ W, Below w.heap.size w W → Calls Tryz.prog 7 #[vu, .int .i64 100] W fun e w' => e = .returned (.bool g1) ∧ W = w'))
    (HG2 : Hid (∀ W, Below w.heap.size w W → Calls Tryz.prog 8 #[au] W fun e w' => e = .returned (.bool g2) ∧ W = w'))
    (HG3 : Hid (∀ W, Below w.heap.size w W → Calls Tryz.prog 9 #[du] W fun e w' => e = .returned (.bool g3) ∧ W = w')) :
    Calls Tryz.prog 3 #[vu, .agg #[.string nm, .slice ta tn tc], au, du] w fun e w' => e = .returned (.bool true) ∧ Below w.heap.size w w' := by
  have HGR := Lib.hid hgr
  clear hgr
  go_enter Tryz.func3, Tryz.ntmps3
  go_upto_region 1 with fail
  obtain ⟨w1, hw1⟩ : ∃ w1, w.alloc (.cells #[.string nm, .slice ta tn tc] 25) = w1 := ⟨_, rfl⟩
  have HB1 : Hid (Below w.heap.size w w1) := Lib.hid (by rw [← hw1]; exact (Below.refl _ _).alloc (Nat.le_refl _) _)
  have HQ1 : Hid (w1.heap[w.heap.size]? = some (.cells #[.string nm, .slice ta tn tc] 25 (0, 0))) := Lib.hid (by rw [← hw1]; exact heap_new _ _ _ rfl)
  obtain ⟨d0, d1, _, _⟩ := ref_cells HQ1.out
  rw [hw1]
  clear hw1
  cases g1 with
  | true =>
    go_wp2_with fail
    refine (HG1.out w1 HB1.out).mono ?_; rintro e w3 ⟨rfl, rfl⟩
    go_wp2_with fail
    go_ret
    exact ⟨rfl, HB1.out⟩
  | false =>
  by_cases hn : (300 : Int) < (nm.size : Int)
  · skip
    go_wp2_with fail
    refine (HG1.out w1 HB1.out).mono ?_; rintro e w3 ⟨rfl, rfl⟩
    go_wp2_with fail
    go_ret
    exact ⟨rfl, HB1.out⟩
  by_cases ht : (20 : Int) < (tn : Int)
  · skip
    go_wp2_with fail
    refine (HG1.out w1 HB1.out).mono ?_; rintro e w3 ⟨rfl, rfl⟩
    go_wp2_with fail
    go_ret
    exact ⟨rfl, HB1.out⟩
  cases g2 with
  | true =>
    go_wp2_with fail
    refine (HG1.out w1 HB1.out).mono ?_; rintro e w3 ⟨rfl, rfl⟩
    go_wp2_with fail
    refine (HG2.out w1 HB1.out).mono ?_; rintro e w3 ⟨rfl, rfl⟩
    go_wp2_with fail
    go_ret
    exact ⟨rfl, HB1.out⟩
  | false =>
  cases g3 with
  | true =>
    go_wp2_with fail
    refine (HG1.out w1 HB1.out).mono ?_; rintro e w3 ⟨rfl, rfl⟩
    go_wp2_with fail
    refine (HG2.out w1 HB1.out).mono ?_; rintro e w3 ⟨rfl, rfl⟩
    go_wp2_with fail
    refine (HG3.out w1 HB1.out).mono ?_; rintro e w3 ⟨rfl, rfl⟩
    go_wp2_with fail
    go_ret
    exact ⟨rfl, HB1.out⟩
  | false =>
    have := HGR.out
    rw [decide_eq_false hn, decide_eq_false ht] at this
    cases this
set_option maxRecDepth 100000 in
set_option maxHeartbeats 8000000 in
theorem lt_go (nm : ByteArray) (ta : Option Addr) (tn tc : Nat) (V : List Cel) (vu au du : Value) (w : World) (E1 E2 E3 E4 : Int) (L1 L2 L3 L4 : List Tok) (hnm : ¬ (300 : Int) < (nm.size : Int)) (htn : ¬ (20 : Int) < (tn : Int))
    (HLL : Hid (L1.length ≤ 90000 ∧ L2.length ≤ 90000 ∧ L3.length ≤ 90000 ∧ L4.length ≤ 90000))
    (HG1 : Hid (∀ W, Below w.heap.size w W → Calls Tryz.prog 7 #[vu, .int .i64 100] W fun e w' => e = .returned (.bool false) ∧ W = w'))
    (HG2 : Hid (∀ W, Below w.heap.size w W → Calls Tryz.prog 8 #[au] W fun e w' => e = .returned (.bool false) ∧ W = w'))
    (HG3 : Hid (∀ W, Below w.heap.size w W → Calls Tryz.prog 9 #[du] W fun e w' => e = .returned (.bool false) ∧ W = w'))
    (HTW : Hid (∀ W, Below w.heap.size w W → Calls Tryz.prog 10 #[vu] W fun e w' => ∃ u, e = .returned u ∧ CelSl u V w' ∧ Below W.heap.size W w'))
    (HTA1 : Hid (∀ u W, Below w.heap.size w W → CelSl u V W → Calls Tryz.prog 11 #[u] W fun e w' => (∃ v, e = .returned (.tuple #[v, .int .i64 E1]) ∧ OwnT W.heap.size v L1 w') ∧ Below W.heap.size W w'))
    (HTB1 : Hid (∀ W, Below w.heap.size w W → Calls Tryz.prog 12 #[vu] W fun e w' => (∃ v, e = .returned (.tuple #[v, .int .i64 E1]) ∧ OwnT W.heap.size v L1 w') ∧ Below W.heap.size W w'))
    (HTA2 : Hid (∀ W, Below w.heap.size w W → Calls Tryz.prog 13 #[.agg #[.string nm, .slice ta tn tc]] W fun e w' => (∃ v, e = .returned (.tuple #[v, .int .i64 E2]) ∧ OwnT W.heap.size v L2 w') ∧ Below W.heap.size W w'))
    (HTB2 : Hid (∀ W, Below w.heap.size w W → Calls Tryz.prog 14 #[.agg #[.string nm, .slice ta tn tc]] W fun e w' => (∃ v, e = .returned (.tuple #[v, .int .i64 E2]) ∧ OwnT W.heap.size v L2 w') ∧ Below W.heap.size W w'))
    (HTA3 : Hid (∀ W, Below w.heap.size w W → Calls Tryz.prog 15 #[au] W fun e w' => (∃ v, e = .returned (.tuple #[v, .int .i64 E3]) ∧ OwnT W.heap.size v L3 w') ∧ Below W.heap.size W w'))
    (HTB3 : Hid (∀ W, Below w.heap.size w W → Calls Tryz.prog 16 #[au] W fun e w' => (∃ v, e = .returned (.tuple #[v, .int .i64 E3]) ∧ OwnT W.heap.size v L3 w') ∧ Below W.heap.size W w'))
    (HTA4 : Hid (∀ W, Below w.heap.size w W → Calls Tryz.prog 17 #[du] W fun e w' => (∃ v, e = .returned (.tuple #[v, .int .i64 E4]) ∧ OwnT W.heap.size v L4 w') ∧ Below W.heap.size W w'))
    (HTB4 : Hid (∀ W, Below w.heap.size w W → Calls Tryz.prog 18 #[du] W fun e w' => (∃ v, e = .returned (.tuple #[v, .int .i64 E4]) ∧ OwnT W.heap.size v L4 w') ∧ Below W.heap.size W w'))
    (HS3 : Hid (∀ u W, Below w.heap.size w W → CelSl u V W → Calls Tryz.prog 20 #[u, vu] W fun e w' => e = .returned (.bool true) ∧ Below W.heap.size W w')) :
    Calls Tryz.prog 3 #[vu, .agg #[.string nm, .slice ta tn tc], au, du] w fun e w' => e = .returned (.bool true) ∧ Below w.heap.size w w' := by
  have HK : ∀ {W W' : World}, Hid (Below w.heap.size w W) → Below W.heap.size W W' → Hid (Below w.heap.size w W') := fun h h' => Lib.hid (h.out.trans (h'.mono h.out.size))
  have HSM : Hid (∀ (L : List Tok) (u v : Value) (W : World), L.length ≤ 90000 → TokSl u L W → TokSl v L W → Calls Tryz.prog 19 #[u, v, .bool true] W fun e w' => e = .returned (.bool true) ∧ Below W.heap.size W w') := Lib.hid fun L u v W hl h1 h2 => by
    have := rsame17_any L L u v true (by omega) (by omega) W h1 h2
    rw [sameT_self] at this
    exact this
  go_enter Tryz.func3, Tryz.ntmps3
  go_upto_region 1 with fail
  obtain ⟨w1, hw1⟩ : ∃ w1, w.alloc (.cells #[.string nm, .slice ta tn tc] 25) = w1 := ⟨_, rfl⟩
  have HB1 : Hid (Below w.heap.size w w1) := Lib.hid (by rw [← hw1]; exact (Below.refl _ _).alloc (Nat.le_refl _) _)
  have HQ1 : Hid (w1.heap[w.heap.size]? = some (.cells #[.string nm, .slice ta tn tc] 25 (0, 0))) := Lib.hid (by rw [← hw1]; exact heap_new _ _ _ rfl)
  obtain ⟨d0, d1, _, _⟩ := ref_cells HQ1.out
  rw [hw1]
  clear hw1
  go_wp2_with fail
  refine (HG1.out w1 HB1.out).mono ?_; rintro e w3 ⟨rfl, rfl⟩
  go_wp2_with fail
  refine (HG2.out w1 HB1.out).mono ?_; rintro e w3 ⟨rfl, rfl⟩
  go_wp2_with fail
  refine (HG3.out w1 HB1.out).mono ?_; rintro e w3 ⟨rfl, rfl⟩
  go_wp2_with fail
  refine (HTW.out w1 HB1.out).mono ?_; rintro e w2 ⟨tw, rfl, htw, hb⟩
  have HB2 := HK HB1 hb
  have HQ2 := Lib.hid ((hb.block _ (heap_lt HQ1.out)).trans HQ1.out)
  have HTW2 := Lib.hid htw
  clear hb htw HB1 HQ1 d0 d1
  go_wp2_with fail
  refine (HTA1.out tw w2 HB2.out HTW2.out).mono ?_; rintro e w3 ⟨⟨p1, rfl, ho⟩, hb⟩
  have HB3 := HK HB2 hb
  have HQ3 := Lib.hid ((hb.block _ (heap_lt HQ2.out)).trans HQ2.out)
  have HTW3 := Lib.hid (HTW2.out.below hb)
  have Hp13 := Lib.hid ho.sl
  clear hb ho HB2 HQ2 HTW2
  go_wp2_with fail
  refine (HTB1.out w3 HB3.out).mono ?_; rintro e w4 ⟨⟨p2, rfl, ho⟩, hb⟩
  have HB4 := HK HB3 hb
  have HQ4 := Lib.hid ((hb.block _ (heap_lt HQ3.out)).trans HQ3.out)
  have HTW4 := Lib.hid (HTW3.out.below hb)
  have Hp14 := Lib.hid (Hp13.out.below hb)
  have Hp24 := Lib.hid ho.sl
  clear hb ho HB3 HQ3 HTW3 Hp13
  obtain ⟨d0, d1, _, _⟩ := ref_cells HQ4.out
  go_wp2_with fail
  refine (HTA2.out w4 HB4.out).mono ?_; rintro e w5 ⟨⟨p3, rfl, ho⟩, hb⟩
  have HB5 := HK HB4 hb
  have HQ5 := Lib.hid ((hb.block _ (heap_lt HQ4.out)).trans HQ4.out)
  have HTW5 := Lib.hid (HTW4.out.below hb)
  have Hp15 := Lib.hid (Hp14.out.below hb)
  have Hp25 := Lib.hid (Hp24.out.below hb)
  have Hp35 := Lib.hid ho.sl
  clear hb ho HB4 HQ4 HTW4 Hp14 Hp24
  clear d0 d1
  obtain ⟨d0, d1, _, _⟩ := ref_cells HQ5.out
  go_wp2_with fail
  refine (HTB2.out w5 HB5.out).mono ?_; rintro e w6 ⟨⟨p4, rfl, ho⟩, hb⟩
  have HB6 := HK HB5 hb
  have HQ6 := Lib.hid ((hb.block _ (heap_lt HQ5.out)).trans HQ5.out)
  have HTW6 := Lib.hid (HTW5.out.below hb)
  have Hp16 := Lib.hid (Hp15.out.below hb)
  have Hp26 := Lib.hid (Hp25.out.below hb)
  have Hp36 := Lib.hid (Hp35.out.below hb)
  have Hp46 := Lib.hid ho.sl
  clear hb ho HB5 HQ5 HTW5 Hp15 Hp25 Hp35
  clear d0 d1
  go_wp2_with fail
  refine (HTA3.out w6 HB6.out).mono ?_; rintro e w7 ⟨⟨p5, rfl, ho⟩, hb⟩
  have HB7 := HK HB6 hb
  have HQ7 := Lib.hid ((hb.block _ (heap_lt HQ6.out)).trans HQ6.out)
  have HTW7 := Lib.hid (HTW6.out.below hb)
  have Hp17 := Lib.hid (Hp16.out.below hb)
  have Hp27 := Lib.hid (Hp26.out.below hb)
  have Hp37 := Lib.hid (Hp36.out.below hb)
  have Hp47 := Lib.hid (Hp46.out.below hb)
  have Hp57 := Lib.hid ho.sl
  clear hb ho HB6 HQ6 HTW6 Hp16 Hp26 Hp36 Hp46
  go_wp2_with fail
  refine (HTB3.out w7 HB7.out).mono ?_; rintro e w8 ⟨⟨p6, rfl, ho⟩, hb⟩
  have HB8 := HK HB7 hb
  have HQ8 := Lib.hid ((hb.block _ (heap_lt HQ7.out)).trans HQ7.out)
  have HTW8 := Lib.hid (HTW7.out.below hb)
  have Hp18 := Lib.hid (Hp17.out.below hb)
  have Hp28 := Lib.hid (Hp27.out.below hb)
  have Hp38 := Lib.hid (Hp37.out.below hb)
  have Hp48 := Lib.hid (Hp47.out.below hb)
  have Hp58 := Lib.hid (Hp57.out.below hb)
  have Hp68 := Lib.hid ho.sl
  clear hb ho HB7 HQ7 HTW7 Hp17 Hp27 Hp37 Hp47 Hp57
  go_wp2_with fail
  refine (HTA4.out w8 HB8.out).mono ?_; rintro e w9 ⟨⟨p7, rfl, ho⟩, hb⟩
  have HB9 := HK HB8 hb
  have HQ9 := Lib.hid ((hb.block _ (heap_lt HQ8.out)).trans HQ8.out)
  have HTW9 := Lib.hid (HTW8.out.below hb)
  have Hp19 := Lib.hid (Hp18.out.below hb)
  have Hp29 := Lib.hid (Hp28.out.below hb)
  have Hp39 := Lib.hid (Hp38.out.below hb)
  have Hp49 := Lib.hid (Hp48.out.below hb)
  have Hp59 := Lib.hid (Hp58.out.below hb)
  have Hp69 := Lib.hid (Hp68.out.below hb)
  have Hp79 := Lib.hid ho.sl
  clear hb ho HB8 HQ8 HTW8 Hp18 Hp28 Hp38 Hp48 Hp58 Hp68
  go_wp2_with fail
  refine (HTB4.out w9 HB9.out).mono ?_; rintro e w10 ⟨⟨p8, rfl, ho⟩, hb⟩
  have HB10 := HK HB9 hb
  have HQ10 := Lib.hid ((hb.block _ (heap_lt HQ9.out)).trans HQ9.out)
  have HTW10 := Lib.hid (HTW9.out.below hb)
  have Hp110 := Lib.hid (Hp19.out.below hb)
  have Hp210 := Lib.hid (Hp29.out.below hb)
  have Hp310 := Lib.hid (Hp39.out.below hb)
  have Hp410 := Lib.hid (Hp49.out.below hb)
  have Hp510 := Lib.hid (Hp59.out.below hb)
  have Hp610 := Lib.hid (Hp69.out.below hb)
  have Hp710 := Lib.hid (Hp79.out.below hb)
  have Hp810 := Lib.hid ho.sl
  clear hb ho HB9 HQ9 HTW9 Hp19 Hp29 Hp39 Hp49 Hp59 Hp69 Hp79
  go_wp2_with fail
  refine (HSM.out L1 p1 p2 w10 HLL.out.1 Hp110.out Hp210.out).mono ?_; rintro e w11 ⟨rfl, hb⟩
  have HB11 := HK HB10 hb
  have HTW11 := Lib.hid (HTW10.out.below hb)
  have Hp111 := Lib.hid (Hp110.out.below hb)
  have Hp211 := Lib.hid (Hp210.out.below hb)
  have Hp311 := Lib.hid (Hp310.out.below hb)
  have Hp411 := Lib.hid (Hp410.out.below hb)
  have Hp511 := Lib.hid (Hp510.out.below hb)
  have Hp611 := Lib.hid (Hp610.out.below hb)
  have Hp711 := Lib.hid (Hp710.out.below hb)
  have Hp811 := Lib.hid (Hp810.out.below hb)
  clear hb HB10 HTW10 Hp110 Hp210 Hp310 Hp410 Hp510 Hp610 Hp710 Hp810
  go_wp2_with fail
  refine (HSM.out L2 p3 p4 w11 HLL.out.2.1 Hp311.out Hp411.out).mono ?_; rintro e w12 ⟨rfl, hb⟩
  have HB12 := HK HB11 hb
  have HTW12 := Lib.hid (HTW11.out.below hb)
  have Hp112 := Lib.hid (Hp111.out.below hb)
  have Hp212 := Lib.hid (Hp211.out.below hb)
  have Hp312 := Lib.hid (Hp311.out.below hb)
  have Hp412 := Lib.hid (Hp411.out.below hb)
  have Hp512 := Lib.hid (Hp511.out.below hb)
  have Hp612 := Lib.hid (Hp611.out.below hb)
  have Hp712 := Lib.hid (Hp711.out.below hb)
  have Hp812 := Lib.hid (Hp811.out.below hb)
  clear hb HB11 HTW11 Hp111 Hp211 Hp311 Hp411 Hp511 Hp611 Hp711 Hp811
  go_wp2_with fail
  refine (HSM.out L3 p5 p6 w12 HLL.out.2.2.1 Hp512.out Hp612.out).mono ?_; rintro e w13 ⟨rfl, hb⟩
  have HB13 := HK HB12 hb
  have HTW13 := Lib.hid (HTW12.out.below hb)
  have Hp113 := Lib.hid (Hp112.out.below hb)
  have Hp213 := Lib.hid (Hp212.out.below hb)
  have Hp313 := Lib.hid (Hp312.out.below hb)
  have Hp413 := Lib.hid (Hp412.out.below hb)
  have Hp513 := Lib.hid (Hp512.out.below hb)
  have Hp613 := Lib.hid (Hp612.out.below hb)
  have Hp713 := Lib.hid (Hp712.out.below hb)
  have Hp813 := Lib.hid (Hp812.out.below hb)
  clear hb HB12 HTW12 Hp112 Hp212 Hp312 Hp412 Hp512 Hp612 Hp712 Hp812
  go_wp2_with fail
  refine (HSM.out L4 p7 p8 w13 HLL.out.2.2.2 Hp713.out Hp813.out).mono ?_; rintro e w14 ⟨rfl, hb⟩
  have HB14 := HK HB13 hb
  have HTW14 := Lib.hid (HTW13.out.below hb)
  have Hp114 := Lib.hid (Hp113.out.below hb)
  have Hp214 := Lib.hid (Hp213.out.below hb)
  have Hp314 := Lib.hid (Hp313.out.below hb)
  have Hp414 := Lib.hid (Hp413.out.below hb)
  have Hp514 := Lib.hid (Hp513.out.below hb)
  have Hp614 := Lib.hid (Hp613.out.below hb)
  have Hp714 := Lib.hid (Hp713.out.below hb)
  have Hp814 := Lib.hid (Hp813.out.below hb)
  clear hb HB13 HTW13 Hp113 Hp213 Hp313 Hp413 Hp513 Hp613 Hp713 Hp813
  go_wp2_with fail
  refine (HS3.out tw w14 HB14.out HTW14.out).mono ?_; rintro e w15 ⟨rfl, hb⟩
  have HB15 := HK HB14 hb
  go_wp2_with fail
  go_ret
  exact ⟨rfl, HB15.out⟩
theorem littells_walk (V : List Cel) (vu : Value) (w : World) (sv : CelSl vu V w) (lv : V.length ≤ maxLen ∧ ∀ t ∈ V, t.name.length ≤ maxLen ∧ t.text.length ≤ maxLen ∧ R t.num ∧ R t.many)
    (rf : ByteArray × List UInt8) (tv : Value) (sr : ∃ u, tv = .agg #[.string rf.1, u] ∧ BSl u rf.2 w ∧ CapB u) (lr : rf.1.size ≤ maxLen ∧ rf.2.length ≤ maxLen)
    (A : List (List UInt8 × List Cel)) (au : Value) (sa : ArgSl au A w) (la : ArgB A) (D : List (List UInt8 × List (List UInt8 × List Cel))) (du : Value) (sd : DirSl du D w) (ld : D.length ≤ maxLen ∧ ∀ t ∈ D, t.1.length ≤ maxLen ∧ ArgB t.2)
    (he : EnvU w ∧ EnvT w) :
    Calls Tryz.prog 3 #[vu, tv, au, du] w fun e w' => e = .returned (.bool true) ∧ Below w.heap.size w w' := by
  obtain ⟨hU, hT⟩ := he
  obtain ⟨nm, ws⟩ := rf
  obtain ⟨u, rfl, hu, hc⟩ := sr
  simp only [] at hu lr ⊢
  obtain ⟨ta, tc, rfl⟩ := hu.form
  have ml : ∀ {n : Nat}, n ≤ maxLen → n ≤ 9223372036854775807 := fun h => by unfold maxLen at h; omega
  have az : ∀ {A : List (List UInt8 × List Cel)}, ArgB A → ArgsZ A := fun h => ⟨ml h.1, fun x hx => ⟨ml (h.2 x hx).1, ml (h.2 x hx).2.1, fun c hc => ⟨ml ((h.2 x hx).2.2 c hc).1, ml ((h.2 x hx).2.2 c hc).2.1⟩⟩⟩
  have HG1 : Hid (∀ W, Below w.heap.size w W → Calls Tryz.prog 7 #[vu, .int .i64 100] W fun e w' => e = .returned (.bool (greatV V 100)) ∧ W = w') := Lib.hid fun W hW => rgreat03_any V vu 100 lv.1 (by omega) W (sv.below hW) (fun c hc => ⟨(lv.2 c hc).1, (lv.2 c hc).2.1⟩)
  have HG2 : Hid (∀ W, Below w.heap.size w W → Calls Tryz.prog 8 #[au] W fun e w' => e = .returned (.bool (greatAB A)) ∧ W = w') := Lib.hid fun W hW => greatargs_any A au (ml la.1) W (ArgSl.below sa hW) (az la).2
  have HG3 : Hid (∀ W, Below w.heap.size w W → Calls Tryz.prog 9 #[du] W fun e w' => e = .returned (.bool (greatDB D)) ∧ W = w') := Lib.hid fun W hW => greatdirs_any D du (ml ld.1) W (DirSl.below sd hW) fun x hx => ⟨ml (ld.2 x hx).1, az (ld.2 x hx).2⟩
  cases hgr : (greatV V 100 || decide ((300 : Int) < (nm.size : Int)) || decide ((20 : Int) < (ws.length : Int)) || greatAB A || greatDB D) with
  | true => exact lt_great nm ta _ tc vu au du w _ _ _ hgr HG1 HG2 HG3
  | false =>
  simp only [Bool.or_eq_false_iff, decide_eq_false_iff_not] at hgr
  obtain ⟨⟨⟨⟨g1, hn⟩, ht⟩, g2⟩, g3⟩ := hgr
  rw [g1] at HG1
  rw [g2] at HG2
  rw [g3] at HG3
  obtain ⟨v1, v2⟩ := greatV_parts g1
  have hVsm : SmallV V := ⟨by omega, fun c hc => by
    obtain ⟨q1, q2⟩ := v2 c hc
    exact ⟨by omega, by omega, (lv.2 c hc).2.2⟩⟩
  obtain ⟨a1, a2, a3, a4⟩ := args_sm la g2
  obtain ⟨d1, d2⟩ := greatDB_parts g3
  have dA : ∀ x ∈ D, ArgsSm x.2 ∧ roomA x.2 ≤ 5000 ∧ x.2.length ≤ 20 ∧ (∀ y ∈ x.2, y.1.length ≤ 100000 ∧ CelS y.2 ∧ NumB y.2 ∧ y.2.length ≤ 60) := fun x hx => args_sm (ld.2 x hx).2 (d2 x hx).1
  have dS : DirsSm D := ⟨by omega, fun x hx => ⟨by have := (d2 x hx).2; omega, (dA x hx).1⟩⟩
  have dR : roomD D ≤ 50000 := by
    have := roomD_le D fun x hx => (d2 x hx).1
    omega
  have t1 : (toksL V).length ≤ 90000 := by
    unfold toksL
    split
    · rename_i h
      have hm : mayB V = true := by unfold litB at h; simp only [Bool.and_eq_true] at h; exact h.1
      have := tokK_len 16 V _ (mayB_parts hm).2.2
      omega
    · simp
  have t2 : (ttL nm.data.toList ws).length ≤ 90000 := by
    unfold ttL
    split
    · have := typK_len nm.data.toList ws
      omega
    · simp
  have t3 : (atoksL A).length ≤ 90000 := by
    unfold atoksL
    split
    · rename_i h
      have := argsK_le A (namedB_ok [] A h fun x hx => (a1.2 x hx).2)
      omega
    · simp
  have t4 : (dtoksL D).length ≤ 90000 := by
    unfold dtoksL
    split
    · rename_i h
      have := dirs_len D dS fun x hx => by
        have := List.all_eq_true.1 h x hx
        unfold dirB at this
        simp only [Bool.and_eq_true] at this
        exact this.2
      omega
    · simp
  exact lt_go nm ta ws.length tc V vu au du w (toksE V) (ttE nm.data.toList ws) (atoksE A) (dtoksE D) (toksL V) (ttL nm.data.toList ws) (atoksL A) (dtoksL D) hn ht (Lib.hid ⟨t1, t2, t3, t4⟩) HG1 HG2 HG3
    (Lib.hid fun W hW => rtwin03_any V vu W (sv.below hW) (by omega))
    (Lib.hid fun u W hW hu => tokens_any V u W hu hVsm (hU.below hW) (hT.stays hW))
    (Lib.hid fun W hW => rtokens_any V vu W (sv.below hW) hVsm)
    (Lib.hid fun W hW => tt_any nm ws _ W (hu.below hW) (by omega) (by omega))
    (Lib.hid fun W hW => rtt_any nm ws _ W (hu.below hW) hc (by omega))
    (Lib.hid fun W hW => argtoks_any A au W (ArgSl.below sa hW) (xsl_form sa) a1 (by omega) (hU.below hW) (hT.stays hW))
    (Lib.hid fun W hW => rat_any A au W (ArgSl.below sa hW) a1 (by omega))
    (Lib.hid fun W hW => dirtoks_any D du W (DirSl.below sd hW) dS (by omega) (hU.below hW) (hT.stays hW))
    (Lib.hid fun W hW => rdt_any D du W (DirSl.below sd hW) dS (by omega))
    (Lib.hid fun u W hW hu => by
      have := rsame03_any V V u vu (by omega) (by omega) W hu (sv.below hW)
      rw [(sameV_iff _ _).2 rfl] at this
      exact this)
end Go.Proofs.YtgaknbnhmoddcaaGreatDoor
namespace Go.Proofs.YtgaknbnhmoddcaaGreatDoor
open Go.RowKit Go.WideShapes Go.ChangeShapes Go.Joins Go.Deep
section
variable {H : Type} {enc : TypeId × Value → H} {w : World} {base : Nat} {spare : Nat → Bool} {held : Bool}
theorem bytes_cap {fuel : Nat} {v : Value} {x : DataW H × List MemPlace} (h : DataW.trod enc Tryz.prog w base spare held fuel 23 [v] = some x) : CapB v := by
  rcases open_slice1 Tryz.underlying23 (by kernel_rfl) h with ⟨h0, _⟩ | ⟨a, len, cap, m, n, V, D, Pl, h0, hb, hl, hm, hmm, hx, hi⟩
  · injection h0 with h0
    intro a n c e
    rw [h0] at e
    injection e with _ e2 e3
    omega
  · injection h0 with h0
    intro a2 n2 c2 e
    rw [h0] at e
    injection e with _ e2 e3
    omega
set_option maxRecDepth 100000 in
theorem open_refc {r : Reach} {b0 : Nat} {v : Value} {d : DataW H} {p : List MemPlace}
    (hv : Value.okWide Tryz.prog w r b0 25 v) (h : DataW.Trod enc Tryz.prog w base spare held 25 v d p) :
    ∃ L : ByteArray × List UInt8, (∃ u, v = .agg #[.string L.1, u] ∧ BSl u L.2 w ∧ CapB u) ∧ L.1.size ≤ maxLen ∧ L.2.length ≤ maxLen := by
  obtain ⟨c0, c1, y0, y1, n, rfl, rfl, rfl, hy0, hy1⟩ := open_agg2 Tryz.underlying25 (by kernel_rfl) cells_ref hv h
  obtain ⟨s, e0, _, ws⟩ := DataW.trod_string Tryz.underlying9 hy0
  obtain ⟨M, m1, m2⟩ := bytes_trod hy1
  have m3 := bytes_cap hy1
  injection e0 with e0
  subst e0
  exact ⟨(s, M), ⟨_, rfl, m1, m3⟩, ws, m2⟩
end
end Go.Proofs.YtgaknbnhmoddcaaGreatDoor
namespace Go.Proofs.YtgaknbnhmoddcaaGreatDoor
open Go.RowKit Go.WideShapes Go.ChangeShapes
section
variable {H : Type} {enc : TypeId × Value → H} {P : Program}
/-- What 'post_of_same' asks of all addresses is asked here of the old blocks alone. -/
theorem post_below {f : Func} {s : ChangeSpec} {apart fresh handsOn again : Bool} {W W' : World} {args : Array Value} {v : Value} {ds gs : List (DataW H)} {before pa pv : List MemPlace}
    (hW : DataW.Whole enc P f.params.toList s.vars apart W args.toList ds gs before)
    (hres : ∀ (b : Nat) (sp : Nat → Bool) (hd : Bool), DataW.TrodAll enc P W' b sp hd f.resultTypes.toList (v.resultList f.resultTypes.size) (s.fn H (ds ++ gs)).results [])
    (hargs : ∀ sp : Nat → Bool, (∀ p ∈ before, sp p.block = true) → DataW.TrodAll enc P W' 0 sp true f.params.toList args.toList (s.fn H (ds ++ gs)).args pa)
    (hvars : ∀ sp : Nat → Bool, (∀ p ∈ before, sp p.block = true) → DataW.TrodVars enc P W' sp s.vars (s.fn H (ds ++ gs)).vars pv)
    (hps : before = pa ++ pv) (hb : Below W.heap.size W W')
    (hok : ∀ (j : Nat) (t : TypeId) (r : Value), f.resultTypes[j]? = some t → (v.resultList f.resultTypes.size)[j]? = some r → Value.okWide P W' .any 0 t r) :
    s.post enc P f apart fresh handsOn again W args v W' := by
  have old : ∀ p ∈ before, decide (p.block < W.heap.size) = true := fun p hp => decide_eq_true (hW.lt p hp)
  subst hps
  refine ⟨ds, gs, pa ++ pv, [], pa, pv, hW, hres _ _ _, hargs _ old, hvars _ old, World.keptBut_mono (fun p hp => ⟨hp, ?_⟩) (hb.frame (· ∈ pa ++ pv)), fun _ => ?_⟩
  · exact .inr (List.mem_append.1 hp)
  · obtain ⟨_, _, _, _, _, hz, hn⟩ := hW
    refine ⟨hok, _, _, ([] ++ pa) ++ pv, ⟨[] ++ pa, pv, trodAll_append (hargs _ (fun _ _ => rfl)) (hres _ _ _), hvars _ (fun _ _ => rfl), rfl, ?_, ?_⟩, ?_⟩
    · intro b off hp
      have hin : MemPlace.cell b off ∈ pa ++ pv := by simpa using hp
      rw [hb.frozen (of_decide_eq_true (old _ hin))]
      exact hz b off hin
    · intro ha
      simpa using hn ha
    · intro p hp _
      simpa using hp
end
end Go.Proofs.YtgaknbnhmoddcaaGreatDoor
