/- A list of cells among a law's parameters: opened. -/
import Derived.Test.YteapenemnnhonaaDoorCr
import Derived.ProofKit
import Derived.OpenShut
import Derived.Lib.SmallJoins
import Derived.Deep.Slices
import Derived.Deep.Fields
import Derived.ChangeSame
set_option linter.unusedVariables false
set_option linter.unusedSimpArgs false
namespace Go.Proofs.YteapenemnnhonaaDoor
open Go.RowKit Go.WideShapes Go.ChangeShapes Go.Joins Go.Deep
theorem cells_cell : Tryd.prog.cellsOf 33 = 5 := by kernel_rfl
section
variable {H : Type} {enc : TypeId × Value → H} {w : World} {base : Nat} {spare : Nat → Bool} {held : Bool}
theorem cels_of (w : World) (a : Addr) : ∀ n : Nat, (∀ i, i < n → ∃ (k : UInt8) (s t : ByteArray) (p q : Int), w.cell? (a.add (i * 5)) = some (.int .u8 (k.toNat : Int)) ∧ w.cell? (a.add (i * 5 + 1)) = some (.string s) ∧ w.cell? (a.add (i * 5 + 2)) = some (.string t) ∧ w.cell? (a.add (i * 5 + 3)) = some (.int .i64 p) ∧ w.cell? (a.add (i * 5 + 4)) = some (.int .i64 q) ∧ s.size ≤ maxLen ∧ t.size ≤ maxLen ∧ R p ∧ R q) →
    ∃ L : List Cel, L.length = n ∧ (∀ t ∈ L, t.name.length ≤ maxLen ∧ t.text.length ≤ maxLen ∧ R t.num ∧ R t.many) ∧ ∀ (i : Nat) (h : i < L.length), w.cell? (a.add (i * 5)) = some (.int .u8 (L[i].kind.toNat : Int)) ∧ w.cell? (a.add (i * 5 + 1)) = some (.string ⟨L[i].name.toArray⟩) ∧ w.cell? (a.add (i * 5 + 2)) = some (.string ⟨L[i].text.toArray⟩) ∧ w.cell? (a.add (i * 5 + 3)) = some (.int .i64 L[i].num) ∧ w.cell? (a.add (i * 5 + 4)) = some (.int .i64 L[i].many)
  | 0, _ => ⟨[], rfl, (fun t h => by cases h), (fun i h => absurd h (by simp))⟩
  | n + 1, h => by
    obtain ⟨L, hl, hz, hc⟩ := cels_of w a n fun i hi => h i (by omega)
    obtain ⟨k, s, t, p, q, c0, c1, c2, c3, c4, hs, ht, hp, hq⟩ := h n (by omega)
    refine ⟨L ++ [⟨k, s.data.toList, t.data.toList, p, q⟩], by simp [hl], ?_, ?_⟩
    · intro x hx
      rcases List.mem_append.1 hx with hx | hx
      · exact hz x hx
      · rw [List.mem_singleton] at hx
        rw [hx]
        refine ⟨?_, ?_, hp, hq⟩
        · show s.data.toList.length ≤ maxLen
          rw [Array.length_toList]
          exact hs
        · show t.data.toList.length ≤ maxLen
          rw [Array.length_toList]
          exact ht
    · intro i hi
      by_cases hin : i < L.length
      · rw [List.getElem_append_left hin]
        exact hc i hin
      · have hin' : i = L.length := by
          rw [List.length_append] at hi
          simp at hi
          omega
        subst hin'
        rw [List.getElem_append_right (Nat.le_refl _)]
        simp only [Nat.sub_self, List.getElem_cons_zero]
        rw [hl]
        refine ⟨c0, ?_, ?_, c3, c4⟩
        · rw [c1]
        · rw [c2]
/-- An element of a slice of structs, whose fields have one cell each: each field's cell, and its reading. -/
theorem elem_fields {P : Program} {H : Type} {enc : TypeId × Value → H} {w : World} {base : Nat} {spare : Nat → Bool} {held : Bool} {e : TypeId} {fs : Array Field} (he : P.underlying e = some (.struct fs)) (hone : oneCellFields P fs = true) {a : Addr} {k n : Nat} {cs : List Value} {x : DataW H × List MemPlace}
    (hk : k = P.cellsOf e) (hk2 : k = fs.size) (hc : w.cells? base a k = some cs) (ht : DataW.trod enc P w base spare held n e cs = some x) (j : Nat) (f : Field) (hj : fs[j]? = some f) :
    ∃ (v : Value) (y : DataW H × List MemPlace) (n' : Nat), w.cell? (a.add j) = some v ∧ DataW.trod enc P w base spare held n' f.type [v] = some y := by
  obtain ⟨ys, n', hn', hy, hlen, hyl, hf⟩ := DataW.trod_struct he ht
  obtain ⟨_, hcl, hat⟩ := World.cells?_some hc
  obtain ⟨ho, h1⟩ := hone_of hone j f hj
  have hjl : j < fs.size := (Array.getElem?_eq_some_iff.1 hj).1
  have hjc : j < cs.length := by omega
  have hcell := hat j (by omega)
  have g := hf j f hj
  rw [ho, h1, List.drop_eq_getElem_cons hjc] at g
  have hys : ys[j]? = some (ys[j]'(by omega)) := List.getElem?_eq_getElem (by omega)
  refine ⟨cs[j], ys[j]'(by omega), n', ?_, ?_⟩
  · rw [hcell]; exact List.getElem?_eq_getElem hjc
  · exact g.trans hys
theorem open_cells {v : Value} {d : DataW H} {p : List MemPlace} (hv : ∃ a l c, v = .slice a l c) (h : DataW.Trod enc Tryd.prog w base spare held 22 v d p) :
    ∃ L : List Cel, CelSl v L w ∧ L.length ≤ maxLen ∧ ∀ t ∈ L, t.name.length ≤ maxLen ∧ t.text.length ≤ maxLen ∧ R t.num ∧ R t.many := by
  obtain ⟨fuel, hf⟩ := h
  obtain ⟨sa, sl, sc, rfl⟩ := hv
  have hcs : (Value.slice sa sl sc).cells.toList = [.slice sa sl sc] := rfl
  rw [hcs] at hf
  rcases open_slice Tryd.underlying22 hf with ⟨h0, _⟩ | ⟨a, len, cap, m, n, D, Pl, h0, hb, hl, hm, hmm, hx, hi⟩
  · injection h0 with h0
    exact ⟨[], Or.inl ⟨_, _, h0, rfl, fun _ => rfl⟩, by decide, fun t h => by cases h⟩
  · injection h0 with h0
    have hlm : len ≤ m := by rw [hmm]; split <;> omega
    obtain ⟨L, hL, hz, hc⟩ := cels_of w a len (fun i hil => by
      obtain ⟨cs', hc, ht⟩ := hi i (by omega)
      rw [cells_cell] at hc
      have F := fun j f hj => elem_fields Tryd.underlying33 (by kernel_rfl) cells_cell.symm rfl hc ht j f hj
      obtain ⟨v0, y0, n0, g0, t0⟩ := F 0 _ rfl
      obtain ⟨v1, y1, n1, g1, t1⟩ := F 1 _ rfl
      obtain ⟨v2, y2, n2, g2, t2⟩ := F 2 _ rfl
      obtain ⟨v3, y3, n3, g3, t3⟩ := F 3 _ rfl
      obtain ⟨v4, y4, n4, g4, t4⟩ := F 4 _ rfl
      obtain ⟨k, e0, _, wk⟩ := DataW.trod_int Tryd.underlying5 t0
      obtain ⟨s, e1, _, ws⟩ := DataW.trod_string Tryd.underlying9 t1
      obtain ⟨t, e2, _, wt⟩ := DataW.trod_string Tryd.underlying9 t2
      obtain ⟨p, e3, _, wp⟩ := DataW.trod_int Tryd.underlying2 t3
      obtain ⟨q, e4, _, wq⟩ := DataW.trod_int Tryd.underlying3 t4
      injection e0 with e0
      injection e1 with e1
      injection e2 with e2
      injection e3 with e3
      injection e4 with e4
      subst e0 e1 e2 e3 e4
      obtain ⟨k1, k2⟩ := Go.bounds_u8 wk
      have hk : ((UInt8.ofNat k.toNat).toNat : Int) = k := by
        rw [UInt8.toNat_ofNat']
        omega
      refine ⟨UInt8.ofNat k.toNat, s, t, p, q, ?_, ?_, ?_, ?_, ?_, ws, wt, Go.bounds_i64 wp, Go.bounds_i64 wq⟩
      · rw [hk, ← g0]
        rw [Go.Deep.add_add]; rfl
      · rw [← g1, Go.Deep.add_add]
      · rw [← g2, Go.Deep.add_add]
      · rw [← g3, Go.Deep.add_add]
      · rw [← g4, Go.Deep.add_add])
    refine ⟨L, ?_, by omega, hz⟩
    by_cases h0l : L = []
    · rw [h0l] at hL
      refine Or.inl ⟨some a, cap, ?_, h0l, fun h => by cases h⟩
      rw [h0, ← hL]; rfl
    · have hpos : 0 < L.length := List.length_pos_iff.2 h0l
      obtain ⟨ab, ao, asp⟩ := a
      have hspot : asp = none := by simpa [Addr.add] using World.cell?_spot (hc 0 hpos).1
      subst hspot
      have hadd : ∀ j, (⟨ab, ao, none⟩ : Addr).add j = ⟨ab, ao + j, none⟩ := by
        intro j
        unfold Addr.add
        split
        · rename_i hz; rw [hz]; rfl
        · rfl
      refine Or.inr ⟨ab, ao, cap, by rw [h0, hL], ?_, hpos⟩
      intro k hk
      obtain ⟨q0, q1, q2, q3, q4⟩ := hc k hk
      rw [hadd] at q0 q1 q2 q3 q4
      exact ⟨q0, q1, q2, q3, q4⟩
end
end Go.Proofs.YteapenemnnhonaaDoor
