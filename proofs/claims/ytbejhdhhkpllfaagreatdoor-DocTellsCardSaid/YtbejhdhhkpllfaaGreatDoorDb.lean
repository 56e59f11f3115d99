/- Definitions, inputs, fields among a law's parameters: opened. -/
import Derived.Test.YtbejhdhhkpllfaaGreatDoorDa
set_option linter.unusedVariables false
set_option linter.unusedSimpArgs false
namespace Go.Proofs.YtbejhdhhkpllfaaGreatDoor
open Go.RowKit Go.WideShapes Go.ChangeShapes Go.Joins Go.Deep
theorem cof_string : Tryz.prog.cellsOf 9 = 1 := by kernel_rfl
theorem cof_u8 : Tryz.prog.cellsOf 5 = 1 := by kernel_rfl
theorem cof_bool : Tryz.prog.cellsOf 4 = 1 := by kernel_rfl
theorem cof_bytes : Tryz.prog.cellsOf 42 = 1 := by kernel_rfl
theorem cof_cells : Tryz.prog.cellsOf 45 = 1 := by kernel_rfl
theorem cof_dirs : Tryz.prog.cellsOf 46 = 1 := by kernel_rfl
theorem cof_inputs : Tryz.prog.cellsOf 32 = 1 := by kernel_rfl
theorem cof_names : Tryz.prog.cellsOf 109 = 1 := by kernel_rfl
theorem cof_inp : Tryz.prog.cellsOf 48 = 6 := by kernel_rfl
section
variable {H : Type} {enc : TypeId × Value → H} {w : World} {base : Nat} {spare : Nat → Bool} {held : Bool}
theorem str_trod {n : Nat} {u : Value} {y : DataW H × List MemPlace} (h : DataW.trod enc Tryz.prog w base spare held n 9 [u] = some y) : ∃ s : List UInt8, u = .string ⟨s.toArray⟩ ∧ s.length ≤ maxLen := by
  obtain ⟨s, e0, _, ws⟩ := DataW.trod_string Tryz.underlying9 h
  injection e0 with e0
  exact ⟨s.data.toList, by rw [e0], by rw [Array.length_toList]; exact ws⟩
theorem bool_trod {n : Nat} {u : Value} {y : DataW H × List MemPlace} (h : DataW.trod enc Tryz.prog w base spare held n 4 [u] = some y) : ∃ b : Bool, u = .bool b := by
  obtain ⟨b, e0, _⟩ := DataW.trod_bool Tryz.underlying4 h
  injection e0 with e0
  exact ⟨b, e0⟩
/-- A slice in a cell, read. -/
theorem slc_of {α : Type} {Sl : Value → α → World → Prop} {Pr : α → Prop} {t e : TypeId} {n : Nat} {a : Addr} {u : Value} {y : DataW H × List MemPlace} (ht : Tryz.prog.underlying t = some (.slice e)) (hu : w.cell? a = some u) (h : DataW.trod enc Tryz.prog w base spare held n t [u] = some y)
    (hop : ∃ x : α, Sl u x w ∧ Pr x) : ∃ x : α, SlC Sl a x w ∧ Pr x := by
  obtain ⟨b, l, c, e⟩ := slice_form ht h
  obtain ⟨x, h1, h2⟩ := hop
  rw [e] at hu h1
  exact ⟨x, ⟨b, l, c, hu, h1⟩, h2⟩
theorem cells_trod {n : Nat} {u : Value} {y : DataW H × List MemPlace} (h : DataW.trod enc Tryz.prog w base spare held n 45 [u] = some y) : ∃ M : List Cel, CelSl u M w ∧ CelB M := by
  obtain ⟨b, l, c, e⟩ := slice_form Tryz.underlying45 h
  subst e
  obtain ⟨M, m1, m2⟩ := open_cells (v := .slice b l c) (d := y.1) (p := y.2) ⟨b, l, c, rfl⟩ ⟨n, h⟩
  exact ⟨M, m1, m2⟩
def DirsB (D : List DirD) : Prop := D.length ≤ maxLen ∧ ∀ t ∈ D, t.1.length ≤ maxLen ∧ ArgB t.2
theorem dirs_trod {n : Nat} {u : Value} {y : DataW H × List MemPlace} (h : DataW.trod enc Tryz.prog w base spare held n 46 [u] = some y) : ∃ D : List DirD, DirSlc u D w ∧ DirsB D := by
  obtain ⟨sa, sl, sc, e⟩ := slice_form Tryz.underlying46 h
  subst e
  obtain ⟨L, h1, h2, h3⟩ := open_xs (Sl := ArgSlc) (Pr := ArgB) (v := .slice sa sl sc) Tryz.underlying46 Tryz.underlying90 (by kernel_rfl) rfl rfl (by kernel_rfl) (by kernel_rfl) Tryz.underlying9 (fun n u y hu => by
    obtain ⟨b, l, c, e⟩ := slice_form Tryz.underlying50 hu
    obtain ⟨M, m1, m2⟩ := args_trod hu
    have hc : capA u := by
      rcases open_slice Tryz.underlying50 hu with ⟨h0, _⟩ | ⟨a, len, cap, m, n, D, Pl, h0, hb, hl, hm, hmm, hx, hi⟩
      · injection h0 with h0
        exact ⟨_, _, _, h0, by omega⟩
      · injection h0 with h0
        exact ⟨_, _, _, h0, by omega⟩
    subst e
    exact ⟨b, l, c, M, rfl, ⟨m1, hc⟩, m2⟩) h
  exact ⟨L, h1, h2, h3⟩
/-- Bounds. -/
def InpB (x : Inp) : Prop := x.name.length ≤ maxLen ∧ x.tnm.length ≤ maxLen ∧ x.wr.length ≤ maxLen ∧ CelB x.dflt ∧ DirsB x.dirs
def InpsB (L : List Inp) : Prop := L.length ≤ maxLen ∧ ∀ x ∈ L, InpB x
def FldB (x : Fld) : Prop := x.name.length ≤ maxLen ∧ InpsB x.args ∧ x.tnm.length ≤ maxLen ∧ x.wr.length ≤ maxLen ∧ DirsB x.dirs
def FldsB (L : List Fld) : Prop := L.length ≤ maxLen ∧ ∀ x ∈ L, FldB x
def NmsB (L : List (List UInt8)) : Prop := L.length ≤ maxLen ∧ ∀ x ∈ L, x.length ≤ maxLen
def DfnB (x : Dfn) : Prop := x.name.length ≤ maxLen ∧ DirsB x.dirs ∧ NmsB x.names ∧ InpsB x.inputs ∧ FldsB x.fields
theorem field_trod {P : Program} {t : TypeId} {fs : Array Field} {fuel : Nat} {cs : List Value} {x : DataW H × List MemPlace} (ht : P.underlying t = some (.struct fs)) (h : DataW.trod enc P w base spare held fuel t cs = some x) (i : Nat) (f : Field) (hi : fs[i]? = some f) :
    ∃ (m : Nat) (y : DataW H × List MemPlace), DataW.trod enc P w base spare held m f.type ((cs.drop f.offset).take (P.cellsOf f.type)) = some y := by
  obtain ⟨xs, n, _, _, _, hl, hf⟩ := DataW.trod_struct ht h
  have hlt : i < xs.length := by rw [hl]; exact (Array.getElem?_eq_some_iff.1 hi).1
  exact ⟨n, xs[i], (hf i f hi).trans (List.getElem?_eq_getElem hlt)⟩
/-- A type's two cells. -/
theorem ref_trod {n : Nat} {c0 c1 : Value} {y : DataW H × List MemPlace} (h : DataW.trod enc Tryz.prog w base spare held n 44 [c0, c1] = some y) :
    (∃ s : List UInt8, c0 = .string ⟨s.toArray⟩ ∧ s.length ≤ maxLen) ∧ ∃ (m : Nat) (z : DataW H × List MemPlace), DataW.trod enc Tryz.prog w base spare held m 42 [c1] = some z := by
  obtain ⟨m0, y0, g0⟩ := field_trod Tryz.underlying44 h 0 _ rfl
  obtain ⟨m1, y1, g1⟩ := field_trod Tryz.underlying44 h 1 _ rfl
  simp [cof_string, cof_bytes] at g0 g1
  exact ⟨str_trod g0, m1, y1, g1⟩
theorem inp_elem {n : Nat} {a : Addr} {cs : List Value} {y : DataW H × List MemPlace} (hc : w.cells? base a 6 = some cs) (h : DataW.trod enc Tryz.prog w base spare held n 48 cs = some y) : ∃ z : Inp, InpE a z w ∧ InpB z := by
  obtain ⟨_, hcl, hat⟩ := World.cells?_some hc
  match cs, hcl with
  | [c0, c1, c2, c3, c4, c5], _ =>
    have k0 : w.cell? (a.add 0) = some c0 := hat 0 (by omega)
    have k1 : w.cell? (a.add 1) = some c1 := hat 1 (by omega)
    have k2 : w.cell? (a.add 2) = some c2 := hat 2 (by omega)
    have k3 : w.cell? (a.add 3) = some c3 := hat 3 (by omega)
    have k4 : w.cell? (a.add 4) = some c4 := hat 4 (by omega)
    have k5 : w.cell? (a.add 5) = some c5 := hat 5 (by omega)
    obtain ⟨m0, y0, g0⟩ := field_trod Tryz.underlying48 h 0 _ rfl
    obtain ⟨m1, y1, g1⟩ := field_trod Tryz.underlying48 h 1 _ rfl
    obtain ⟨m2, y2, g2⟩ := field_trod Tryz.underlying48 h 2 _ rfl
    obtain ⟨m3, y3, g3⟩ := field_trod Tryz.underlying48 h 3 _ rfl
    obtain ⟨m4, y4, g4⟩ := field_trod Tryz.underlying48 h 4 _ rfl
    simp [cof_string, cells_ref, cof_bool, cof_cells, cof_dirs] at g0 g1 g2 g3 g4
    obtain ⟨s0, e0, b0⟩ := str_trod g0
    obtain ⟨⟨s1, e1, b1⟩, mm, zz, g1b⟩ := ref_trod g1
    obtain ⟨hb, e3⟩ := bool_trod g2
    obtain ⟨x2, sl2, b2⟩ := slc_of Tryz.underlying42 k2 g1b (bytes_trod g1b)
    obtain ⟨x4, sl4, b4⟩ := slc_of Tryz.underlying45 k4 g3 (cells_trod g3)
    obtain ⟨x5, sl5, b5⟩ := slc_of Tryz.underlying46 k5 g4 (dirs_trod g4)
    exact ⟨⟨s0, s1, x2, hb, x4, x5⟩, ⟨(show w.cell? (a.add 0) = some (.string ⟨s0.toArray⟩) from by rw [← e0]; exact k0), (show w.cell? (a.add 1) = some (.string ⟨s1.toArray⟩) from by rw [← e1]; exact k1), sl2, (show w.cell? (a.add 3) = some (.bool hb) from by rw [← e3]; exact k3), sl4, sl5⟩, b0, b1, b2, b4, b5⟩
theorem inputs_trod {n : Nat} {u : Value} {y : DataW H × List MemPlace} (h : DataW.trod enc Tryz.prog w base spare held n 32 [u] = some y) : ∃ L : List Inp, InpSl u L w ∧ InpsB L := by
  obtain ⟨L, h1, h2, h3⟩ := open_slg (E := InpE) (Pr := InpB) Tryz.underlying32 cof_inp (fun a y h => ⟨_, h.1⟩) (fun n a cs y hc ht => inp_elem hc ht) h
  exact ⟨L, h1, h2, h3⟩
theorem names_trod {n : Nat} {u : Value} {y : DataW H × List MemPlace} (h : DataW.trod enc Tryz.prog w base spare held n 109 [u] = some y) : ∃ L : List (List UInt8), NmsSl u L w ∧ NmsB L := by
  obtain ⟨L, h1, h2, h3⟩ := open_slg (E := StrC) (Pr := fun x : List UInt8 => x.length ≤ maxLen) Tryz.underlying109 cof_string (fun a y h => ⟨_, by rw [show a.add 0 = a from by simp [Addr.add]]; exact h⟩) (fun n a cs y hc ht => by
    obtain ⟨_, hcl, hat⟩ := World.cells?_some hc
    match cs, hcl with
    | [c0], _ =>
      have k0 : w.cell? (a.add 0) = some c0 := hat 0 (by omega)
      obtain ⟨s, e0, b0⟩ := str_trod ht
      refine ⟨s, ?_, b0⟩
      have : a.add 0 = a := by simp [Addr.add]
      unfold StrC
      rw [← e0, ← this]
      exact k0) h
  exact ⟨L, h1, h2, h3⟩
def DfnsB (L : List Dfn) : Prop := L.length ≤ maxLen ∧ ∀ x ∈ L, DfnB x
end
end Go.Proofs.YtbejhdhhkpllfaaGreatDoor
