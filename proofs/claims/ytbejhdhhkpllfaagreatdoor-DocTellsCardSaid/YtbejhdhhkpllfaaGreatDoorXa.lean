/- Documents (api.Sel, Op, Frag, Doc): their data, how they lie in rows; opened among a law's parameters; equality of such data as a Bool. -/
import Derived.Test.YtbejhdhhkpllfaaGreatDoorDb
import Derived.Test.YtbejhdhhkpllfaaGreatDoorDc
set_option linter.unusedVariables false
set_option linter.unusedSimpArgs false
namespace Go.Proofs.YtbejhdhhkpllfaaGreatDoor
open Go.RowKit Go.WideShapes Go.ChangeShapes Go.Joins Go.Deep
theorem cof_i64 : Tryz.prog.cellsOf 3 = 1 := by kernel_rfl
theorem cof_args : Tryz.prog.cellsOf 50 = 1 := by kernel_rfl
theorem cof_sels : Tryz.prog.cellsOf 33 = 1 := by kernel_rfl
theorem cof_ops : Tryz.prog.cellsOf 22 = 1 := by kernel_rfl
theorem cof_frags : Tryz.prog.cellsOf 23 = 1 := by kernel_rfl
theorem cof_doc : Tryz.prog.cellsOf 25 = 2 := by kernel_rfl
structure SelD where
  kind : UInt8
  als : List UInt8
  name : List UInt8
  args : List ArgD
  dirs : List DirD
  many : Int
def SelE (a : Addr) (x : SelD) (W : World) : Prop := W.cell? (a.add 0) = some (.int .u8 (x.kind.toNat : Int)) ∧ StrC (a.add 1) x.als W ∧ StrC (a.add 2) x.name W ∧ SlC ArgSl (a.add 3) x.args W ∧ SlC DirSlc (a.add 4) x.dirs W ∧ W.cell? (a.add 5) = some (.int .i64 x.many)
abbrev SelSl : Value → List SelD → World → Prop := SlG 6 SelE
theorem SelE.below {a : Addr} {x : SelD} {w w' : World} (h : SelE a x w) (hb : Below w.heap.size w w') : SelE a x w' := by
  obtain ⟨h0, h1, h2, h3, h4, h5⟩ := h
  exact ⟨cellA_below h0 hb, h1.below hb, h2.below hb, h3.below (fun _ _ h => ArgSl.below h hb) hb, h4.below (fun _ _ h => DirSlc.below h hb) hb, cellA_below h5 hb⟩
theorem SelSl.below {v : Value} {L : List SelD} {w w' : World} (h : SelSl v L w) (hb : Below w.heap.size w w') : SelSl v L w' := SlG.below h fun _ _ h => h.below hb
def SelB (x : SelD) : Prop := x.als.length ≤ maxLen ∧ x.name.length ≤ maxLen ∧ ArgB x.args ∧ DirsB x.dirs ∧ (-9223372036854775808 ≤ x.many ∧ x.many ≤ 9223372036854775807)
def SelsB (L : List SelD) : Prop := L.length ≤ maxLen ∧ ∀ x ∈ L, SelB x
section
variable {H : Type} {enc : TypeId × Value → H} {w : World} {base : Nat} {spare : Nat → Bool} {held : Bool}
theorem cof_Sel : Tryz.prog.cellsOf 52 = 6 := by kernel_rfl
theorem Sel_elem {n : Nat} {a : Addr} {cs : List Value} {y : DataW H × List MemPlace} (hc : w.cells? base a 6 = some cs) (h : DataW.trod enc Tryz.prog w base spare held n 52 cs = some y) : ∃ z : SelD, SelE a z w ∧ SelB z := by
  obtain ⟨_, hcl, hat⟩ := World.cells?_some hc
  match cs, hcl with
  | [c0, c1, c2, c3, c4, c5], _ =>
    have k0 : w.cell? (a.add 0) = some c0 := hat 0 (by omega)
    have k1 : w.cell? (a.add 1) = some c1 := hat 1 (by omega)
    have k2 : w.cell? (a.add 2) = some c2 := hat 2 (by omega)
    have k3 : w.cell? (a.add 3) = some c3 := hat 3 (by omega)
    have k4 : w.cell? (a.add 4) = some c4 := hat 4 (by omega)
    have k5 : w.cell? (a.add 5) = some c5 := hat 5 (by omega)
    obtain ⟨m0, y0, g0⟩ := field_trod Tryz.underlying52 h 0 _ rfl
    obtain ⟨m1, y1, g1⟩ := field_trod Tryz.underlying52 h 1 _ rfl
    obtain ⟨m2, y2, g2⟩ := field_trod Tryz.underlying52 h 2 _ rfl
    obtain ⟨m3, y3, g3⟩ := field_trod Tryz.underlying52 h 3 _ rfl
    obtain ⟨m4, y4, g4⟩ := field_trod Tryz.underlying52 h 4 _ rfl
    obtain ⟨m5, y5, g5⟩ := field_trod Tryz.underlying52 h 5 _ rfl
    simp [cof_u8, cof_string, cof_args, cof_dirs, cof_i64] at g0 g1 g2 g3 g4 g5
    obtain ⟨z0, e0, _, w0⟩ := DataW.trod_int Tryz.underlying5 g0
    injection e0 with e0
    obtain ⟨qa0, qb0⟩ := Go.bounds_u8 w0
    have hk0 : ((UInt8.ofNat z0.toNat).toNat : Int) = z0 := by
      rw [UInt8.toNat_ofNat']
      omega
    obtain ⟨s1, e1, b1⟩ := str_trod g1
    obtain ⟨s2, e2, b2⟩ := str_trod g2
    obtain ⟨x3, sl3, b3⟩ := slc_of Tryz.underlying50 k3 g3 (args_trod g3)
    obtain ⟨x4, sl4, b4⟩ := slc_of Tryz.underlying46 k4 g4 (dirs_trod g4)
    obtain ⟨z5, e5, _, w5⟩ := DataW.trod_int Tryz.underlying3 g5
    injection e5 with e5
    exact ⟨⟨UInt8.ofNat z0.toNat, s1, s2, x3, x4, z5⟩, ⟨(by rw [hk0, ← e0]; exact k0), (show w.cell? (a.add 1) = some (.string ⟨s1.toArray⟩) from by rw [← e1]; exact k1), (show w.cell? (a.add 2) = some (.string ⟨s2.toArray⟩) from by rw [← e2]; exact k2), sl3, sl4, (show w.cell? (a.add 5) = some (.int .i64 z5) from by rw [← e5]; exact k5)⟩, b1, b2, b3, b4, (R_of_wf w5)⟩
theorem sels_trod {n : Nat} {u : Value} {y : DataW H × List MemPlace} (h : DataW.trod enc Tryz.prog w base spare held n 33 [u] = some y) : ∃ L : List SelD, SelSl u L w ∧ SelsB L := by
  obtain ⟨L, h1, h2, h3⟩ := open_slg (E := SelE) (Pr := SelB) Tryz.underlying33 cof_Sel (fun a y h => ⟨_, h.1⟩) (fun n a cs y hc ht => Sel_elem hc ht) h
  exact ⟨L, h1, h2, h3⟩
end
theorem eqB_Sel (x y : SelD) : eqB x y = (eqB x.kind y.kind && eqB x.als y.als && eqB x.name y.name && eqB x.args y.args && eqB x.dirs y.dirs && eqB x.many y.many) := by
  rw [Bool.eq_iff_iff]
  simp only [Bool.and_eq_true, eqB_iff]
  cases x; cases y
  simp only [SelD.mk.injEq]
  constructor
  · rintro ⟨h0, h1, h2, h3, h4, h5⟩; exact ⟨⟨⟨⟨⟨h0, h1⟩, h2⟩, h3⟩, h4⟩, h5⟩
  · rintro ⟨⟨⟨⟨⟨h0, h1⟩, h2⟩, h3⟩, h4⟩, h5⟩; exact ⟨h0, h1, h2, h3, h4, h5⟩
def SelV (v : Value) (x : SelD) (W : World) : Prop := ∃ a3 n3 c3 a4 n4 c4, v = .agg #[.int .u8 (x.kind.toNat : Int), .string ⟨x.als.toArray⟩, .string ⟨x.name.toArray⟩, .slice a3 n3 c3, .slice a4 n4 c4, .int .i64 x.many] ∧ ArgSl (.slice a3 n3 c3) x.args W ∧ DirSlc (.slice a4 n4 c4) x.dirs W
theorem SelV.below {v : Value} {x : SelD} {w w' : World} (h : SelV v x w) (hb : Below w.heap.size w w') : SelV v x w' := by
  obtain ⟨_, _, _, _, _, _, e, h3, h4⟩ := h
  exact ⟨_, _, _, _, _, _, e, ArgSl.below h3 hb, DirSlc.below h4 hb⟩
theorem Sel_at {b off : Nat} {L : List SelD} {W : World} (h : RowG 6 SelE ⟨b, off, none⟩ L W) (i : Nat) (hi : i < L.length) : ∃ a3 n3 c3 a4 n4 c4,
    W.cell? ⟨b, off + i * 6, none⟩ = some (.int .u8 (L[i].kind.toNat : Int)) ∧ W.cell? ⟨b, off + i * 6 + 1, none⟩ = some (.string ⟨L[i].als.toArray⟩) ∧ W.cell? ⟨b, off + i * 6 + 2, none⟩ = some (.string ⟨L[i].name.toArray⟩) ∧ W.cell? ⟨b, off + i * 6 + 3, none⟩ = some (.slice a3 n3 c3) ∧ W.cell? ⟨b, off + i * 6 + 4, none⟩ = some (.slice a4 n4 c4) ∧ W.cell? ⟨b, off + i * 6 + 5, none⟩ = some (.int .i64 L[i].many) ∧
    ArgSl (.slice a3 n3 c3) L[i].args W ∧ DirSlc (.slice a4 n4 c4) L[i].dirs W := by
  have h := h i hi
  unfold SelE at h
  simp only [StrC, SlC, addr_addB, Nat.add_zero] at h
  obtain ⟨h0, h1, h2, ⟨a3, n3, c3, h3, g3⟩, ⟨a4, n4, c4, h4, g4⟩, h5⟩ := h
  exact ⟨a3, n3, c3, a4, n4, c4, h0, h1, h2, h3, h4, h5, g3, g4⟩
structure OpD where
  kind : UInt8
  name : List UInt8
  vars : List Inp
  many : Int
  sels : List SelD
def OprE (a : Addr) (x : OpD) (W : World) : Prop := W.cell? (a.add 0) = some (.int .u8 (x.kind.toNat : Int)) ∧ StrC (a.add 1) x.name W ∧ SlC InpSl (a.add 2) x.vars W ∧ W.cell? (a.add 3) = some (.int .i64 x.many) ∧ SlC SelSl (a.add 4) x.sels W
abbrev OprSl : Value → List OpD → World → Prop := SlG 5 OprE
theorem OprE.below {a : Addr} {x : OpD} {w w' : World} (h : OprE a x w) (hb : Below w.heap.size w w') : OprE a x w' := by
  obtain ⟨h0, h1, h2, h3, h4⟩ := h
  exact ⟨cellA_below h0 hb, h1.below hb, h2.below (fun _ _ h => InpSl.below h hb) hb, cellA_below h3 hb, h4.below (fun _ _ h => SelSl.below h hb) hb⟩
theorem OprSl.below {v : Value} {L : List OpD} {w w' : World} (h : OprSl v L w) (hb : Below w.heap.size w w') : OprSl v L w' := SlG.below h fun _ _ h => h.below hb
def OprB (x : OpD) : Prop := x.name.length ≤ maxLen ∧ InpsB x.vars ∧ (-9223372036854775808 ≤ x.many ∧ x.many ≤ 9223372036854775807) ∧ SelsB x.sels
def OprsB (L : List OpD) : Prop := L.length ≤ maxLen ∧ ∀ x ∈ L, OprB x
section
variable {H : Type} {enc : TypeId × Value → H} {w : World} {base : Nat} {spare : Nat → Bool} {held : Bool}
theorem cof_Opr : Tryz.prog.cellsOf 35 = 5 := by kernel_rfl
theorem Opr_elem {n : Nat} {a : Addr} {cs : List Value} {y : DataW H × List MemPlace} (hc : w.cells? base a 5 = some cs) (h : DataW.trod enc Tryz.prog w base spare held n 35 cs = some y) : ∃ z : OpD, OprE a z w ∧ OprB z := by
  obtain ⟨_, hcl, hat⟩ := World.cells?_some hc
  match cs, hcl with
  | [c0, c1, c2, c3, c4], _ =>
    have k0 : w.cell? (a.add 0) = some c0 := hat 0 (by omega)
    have k1 : w.cell? (a.add 1) = some c1 := hat 1 (by omega)
    have k2 : w.cell? (a.add 2) = some c2 := hat 2 (by omega)
    have k3 : w.cell? (a.add 3) = some c3 := hat 3 (by omega)
    have k4 : w.cell? (a.add 4) = some c4 := hat 4 (by omega)
    obtain ⟨m0, y0, g0⟩ := field_trod Tryz.underlying35 h 0 _ rfl
    obtain ⟨m1, y1, g1⟩ := field_trod Tryz.underlying35 h 1 _ rfl
    obtain ⟨m2, y2, g2⟩ := field_trod Tryz.underlying35 h 2 _ rfl
    obtain ⟨m3, y3, g3⟩ := field_trod Tryz.underlying35 h 3 _ rfl
    obtain ⟨m4, y4, g4⟩ := field_trod Tryz.underlying35 h 4 _ rfl
    simp [cof_u8, cof_string, cof_inputs, cof_i64, cof_sels] at g0 g1 g2 g3 g4
    obtain ⟨z0, e0, _, w0⟩ := DataW.trod_int Tryz.underlying5 g0
    injection e0 with e0
    obtain ⟨qa0, qb0⟩ := Go.bounds_u8 w0
    have hk0 : ((UInt8.ofNat z0.toNat).toNat : Int) = z0 := by
      rw [UInt8.toNat_ofNat']
      omega
    obtain ⟨s1, e1, b1⟩ := str_trod g1
    obtain ⟨x2, sl2, b2⟩ := slc_of Tryz.underlying32 k2 g2 (inputs_trod g2)
    obtain ⟨z3, e3, _, w3⟩ := DataW.trod_int Tryz.underlying3 g3
    injection e3 with e3
    obtain ⟨x4, sl4, b4⟩ := slc_of Tryz.underlying33 k4 g4 (sels_trod g4)
    exact ⟨⟨UInt8.ofNat z0.toNat, s1, x2, z3, x4⟩, ⟨(by rw [hk0, ← e0]; exact k0), (show w.cell? (a.add 1) = some (.string ⟨s1.toArray⟩) from by rw [← e1]; exact k1), sl2, (show w.cell? (a.add 3) = some (.int .i64 z3) from by rw [← e3]; exact k3), sl4⟩, b1, b2, (R_of_wf w3), b4⟩
theorem ops_trod {n : Nat} {u : Value} {y : DataW H × List MemPlace} (h : DataW.trod enc Tryz.prog w base spare held n 22 [u] = some y) : ∃ L : List OpD, OprSl u L w ∧ OprsB L := by
  obtain ⟨L, h1, h2, h3⟩ := open_slg (E := OprE) (Pr := OprB) Tryz.underlying22 cof_Opr (fun a y h => ⟨_, h.1⟩) (fun n a cs y hc ht => Opr_elem hc ht) h
  exact ⟨L, h1, h2, h3⟩
end
theorem eqB_Opr (x y : OpD) : eqB x y = (eqB x.kind y.kind && eqB x.name y.name && eqB x.vars y.vars && eqB x.many y.many && eqB x.sels y.sels) := by
  rw [Bool.eq_iff_iff]
  simp only [Bool.and_eq_true, eqB_iff]
  cases x; cases y
  simp only [OpD.mk.injEq]
  constructor
  · rintro ⟨h0, h1, h2, h3, h4⟩; exact ⟨⟨⟨⟨h0, h1⟩, h2⟩, h3⟩, h4⟩
  · rintro ⟨⟨⟨⟨h0, h1⟩, h2⟩, h3⟩, h4⟩; exact ⟨h0, h1, h2, h3, h4⟩
def OprV (v : Value) (x : OpD) (W : World) : Prop := ∃ a2 n2 c2 a4 n4 c4, v = .agg #[.int .u8 (x.kind.toNat : Int), .string ⟨x.name.toArray⟩, .slice a2 n2 c2, .int .i64 x.many, .slice a4 n4 c4] ∧ InpSl (.slice a2 n2 c2) x.vars W ∧ SelSl (.slice a4 n4 c4) x.sels W
theorem OprV.below {v : Value} {x : OpD} {w w' : World} (h : OprV v x w) (hb : Below w.heap.size w w') : OprV v x w' := by
  obtain ⟨_, _, _, _, _, _, e, h2, h4⟩ := h
  exact ⟨_, _, _, _, _, _, e, InpSl.below h2 hb, SelSl.below h4 hb⟩
theorem Opr_at {b off : Nat} {L : List OpD} {W : World} (h : RowG 5 OprE ⟨b, off, none⟩ L W) (i : Nat) (hi : i < L.length) : ∃ a2 n2 c2 a4 n4 c4,
    W.cell? ⟨b, off + i * 5, none⟩ = some (.int .u8 (L[i].kind.toNat : Int)) ∧ W.cell? ⟨b, off + i * 5 + 1, none⟩ = some (.string ⟨L[i].name.toArray⟩) ∧ W.cell? ⟨b, off + i * 5 + 2, none⟩ = some (.slice a2 n2 c2) ∧ W.cell? ⟨b, off + i * 5 + 3, none⟩ = some (.int .i64 L[i].many) ∧ W.cell? ⟨b, off + i * 5 + 4, none⟩ = some (.slice a4 n4 c4) ∧
    InpSl (.slice a2 n2 c2) L[i].vars W ∧ SelSl (.slice a4 n4 c4) L[i].sels W := by
  have h := h i hi
  unfold OprE at h
  simp only [StrC, SlC, addr_addB, Nat.add_zero] at h
  obtain ⟨h0, h1, ⟨a2, n2, c2, h2, g2⟩, h3, ⟨a4, n4, c4, h4, g4⟩⟩ := h
  exact ⟨a2, n2, c2, a4, n4, c4, h0, h1, h2, h3, h4, g2, g4⟩
structure FrgD where
  name : List UInt8
  on : List UInt8
  many : Int
  sels : List SelD
def FrgE (a : Addr) (x : FrgD) (W : World) : Prop := StrC (a.add 0) x.name W ∧ StrC (a.add 1) x.on W ∧ W.cell? (a.add 2) = some (.int .i64 x.many) ∧ SlC SelSl (a.add 3) x.sels W
abbrev FrgSl : Value → List FrgD → World → Prop := SlG 4 FrgE
theorem FrgE.below {a : Addr} {x : FrgD} {w w' : World} (h : FrgE a x w) (hb : Below w.heap.size w w') : FrgE a x w' := by
  obtain ⟨h0, h1, h2, h3⟩ := h
  exact ⟨h0.below hb, h1.below hb, cellA_below h2 hb, h3.below (fun _ _ h => SelSl.below h hb) hb⟩
theorem FrgSl.below {v : Value} {L : List FrgD} {w w' : World} (h : FrgSl v L w) (hb : Below w.heap.size w w') : FrgSl v L w' := SlG.below h fun _ _ h => h.below hb
def FrgB (x : FrgD) : Prop := x.name.length ≤ maxLen ∧ x.on.length ≤ maxLen ∧ (-9223372036854775808 ≤ x.many ∧ x.many ≤ 9223372036854775807) ∧ SelsB x.sels
def FrgsB (L : List FrgD) : Prop := L.length ≤ maxLen ∧ ∀ x ∈ L, FrgB x
section
variable {H : Type} {enc : TypeId × Value → H} {w : World} {base : Nat} {spare : Nat → Bool} {held : Bool}
theorem cof_Frg : Tryz.prog.cellsOf 38 = 4 := by kernel_rfl
theorem Frg_elem {n : Nat} {a : Addr} {cs : List Value} {y : DataW H × List MemPlace} (hc : w.cells? base a 4 = some cs) (h : DataW.trod enc Tryz.prog w base spare held n 38 cs = some y) : ∃ z : FrgD, FrgE a z w ∧ FrgB z := by
  obtain ⟨_, hcl, hat⟩ := World.cells?_some hc
  match cs, hcl with
  | [c0, c1, c2, c3], _ =>
    have k0 : w.cell? (a.add 0) = some c0 := hat 0 (by omega)
    have k1 : w.cell? (a.add 1) = some c1 := hat 1 (by omega)
    have k2 : w.cell? (a.add 2) = some c2 := hat 2 (by omega)
    have k3 : w.cell? (a.add 3) = some c3 := hat 3 (by omega)
    obtain ⟨m0, y0, g0⟩ := field_trod Tryz.underlying38 h 0 _ rfl
    obtain ⟨m1, y1, g1⟩ := field_trod Tryz.underlying38 h 1 _ rfl
    obtain ⟨m2, y2, g2⟩ := field_trod Tryz.underlying38 h 2 _ rfl
    obtain ⟨m3, y3, g3⟩ := field_trod Tryz.underlying38 h 3 _ rfl
    simp [cof_string, cof_i64, cof_sels] at g0 g1 g2 g3
    obtain ⟨s0, e0, b0⟩ := str_trod g0
    obtain ⟨s1, e1, b1⟩ := str_trod g1
    obtain ⟨z2, e2, _, w2⟩ := DataW.trod_int Tryz.underlying3 g2
    injection e2 with e2
    obtain ⟨x3, sl3, b3⟩ := slc_of Tryz.underlying33 k3 g3 (sels_trod g3)
    exact ⟨⟨s0, s1, z2, x3⟩, ⟨(show w.cell? (a.add 0) = some (.string ⟨s0.toArray⟩) from by rw [← e0]; exact k0), (show w.cell? (a.add 1) = some (.string ⟨s1.toArray⟩) from by rw [← e1]; exact k1), (show w.cell? (a.add 2) = some (.int .i64 z2) from by rw [← e2]; exact k2), sl3⟩, b0, b1, (R_of_wf w2), b3⟩
theorem frgs_trod {n : Nat} {u : Value} {y : DataW H × List MemPlace} (h : DataW.trod enc Tryz.prog w base spare held n 23 [u] = some y) : ∃ L : List FrgD, FrgSl u L w ∧ FrgsB L := by
  obtain ⟨L, h1, h2, h3⟩ := open_slg (E := FrgE) (Pr := FrgB) Tryz.underlying23 cof_Frg (fun a y h => ⟨_, h.1⟩) (fun n a cs y hc ht => Frg_elem hc ht) h
  exact ⟨L, h1, h2, h3⟩
end
theorem eqB_Frg (x y : FrgD) : eqB x y = (eqB x.name y.name && eqB x.on y.on && eqB x.many y.many && eqB x.sels y.sels) := by
  rw [Bool.eq_iff_iff]
  simp only [Bool.and_eq_true, eqB_iff]
  cases x; cases y
  simp only [FrgD.mk.injEq]
  constructor
  · rintro ⟨h0, h1, h2, h3⟩; exact ⟨⟨⟨h0, h1⟩, h2⟩, h3⟩
  · rintro ⟨⟨⟨h0, h1⟩, h2⟩, h3⟩; exact ⟨h0, h1, h2, h3⟩
def FrgV (v : Value) (x : FrgD) (W : World) : Prop := ∃ a3 n3 c3, v = .agg #[.string ⟨x.name.toArray⟩, .string ⟨x.on.toArray⟩, .int .i64 x.many, .slice a3 n3 c3] ∧ SelSl (.slice a3 n3 c3) x.sels W
theorem FrgV.below {v : Value} {x : FrgD} {w w' : World} (h : FrgV v x w) (hb : Below w.heap.size w w') : FrgV v x w' := by
  obtain ⟨_, _, _, e, h3⟩ := h
  exact ⟨_, _, _, e, SelSl.below h3 hb⟩
theorem Frg_at {b off : Nat} {L : List FrgD} {W : World} (h : RowG 4 FrgE ⟨b, off, none⟩ L W) (i : Nat) (hi : i < L.length) : ∃ a3 n3 c3,
    W.cell? ⟨b, off + i * 4, none⟩ = some (.string ⟨L[i].name.toArray⟩) ∧ W.cell? ⟨b, off + i * 4 + 1, none⟩ = some (.string ⟨L[i].on.toArray⟩) ∧ W.cell? ⟨b, off + i * 4 + 2, none⟩ = some (.int .i64 L[i].many) ∧ W.cell? ⟨b, off + i * 4 + 3, none⟩ = some (.slice a3 n3 c3) ∧
    SelSl (.slice a3 n3 c3) L[i].sels W := by
  have h := h i hi
  unfold FrgE at h
  simp only [StrC, SlC, addr_addB, Nat.add_zero] at h
  obtain ⟨h0, h1, h2, ⟨a3, n3, c3, h3, g3⟩⟩ := h
  exact ⟨a3, n3, c3, h0, h1, h2, h3, g3⟩
theorem eqB_SelG (x y : SelD) : eqB x y = (eqB x.kind y.kind && eqB x.als y.als && eqB x.name y.name && eqB x.many y.many && eqB x.args y.args && eqB x.dirs y.dirs) := by
  rw [eqB_Sel]
  cases eqB x.kind y.kind <;> cases eqB x.als y.als <;> cases eqB x.name y.name <;> cases eqB x.many y.many <;> cases eqB x.args y.args <;> cases eqB x.dirs y.dirs <;> rfl
theorem eqB_OprG (x y : OpD) : eqB x y = (eqB x.kind y.kind && eqB x.name y.name && eqB x.many y.many && eqB x.vars y.vars && eqB x.sels y.sels) := by
  rw [eqB_Opr]
  cases eqB x.kind y.kind <;> cases eqB x.name y.name <;> cases eqB x.vars y.vars <;> cases eqB x.many y.many <;> cases eqB x.sels y.sels <;> rfl
theorem eqB_int (a b : Int) : (a == b) = eqB a b := eqB_of (by rw [beq_iff_eq])
structure DocD where
  ops : List OpD
  frags : List FrgD
def DocV (v : Value) (x : DocD) (W : World) : Prop := ∃ a0 n0 c0 a1 n1 c1, v = .agg #[.slice a0 n0 c0, .slice a1 n1 c1] ∧ OprSl (.slice a0 n0 c0) x.ops W ∧ FrgSl (.slice a1 n1 c1) x.frags W
def DocB (x : DocD) : Prop := OprsB x.ops ∧ FrgsB x.frags
theorem DocV.below {v : Value} {x : DocD} {w w' : World} (h : DocV v x w) (hb : Below w.heap.size w w') : DocV v x w' := by
  obtain ⟨_, _, _, _, _, _, e, h1, h2⟩ := h
  exact ⟨_, _, _, _, _, _, e, OprSl.below h1 hb, FrgSl.below h2 hb⟩
theorem eqB_doc (x y : DocD) : eqB x y = (eqB x.ops y.ops && eqB x.frags y.frags) := by
  rw [Bool.eq_iff_iff]
  simp only [Bool.and_eq_true, eqB_iff]
  cases x; cases y
  simp only [DocD.mk.injEq]
section
variable {H : Type} {enc : TypeId × Value → H} {w : World} {base : Nat} {spare : Nat → Bool} {held : Bool}
set_option maxRecDepth 100000 in
theorem open_doc {r : Reach} {b0 : Nat} {v : Value} {d : DataW H} {p : List MemPlace}
    (hv : Value.okWide Tryz.prog w r b0 25 v) (h : DataW.Trod enc Tryz.prog w base spare held 25 v d p) :
    ∃ L : DocD, DocV v L w ∧ DocB L := by
  obtain ⟨c0, c1, y0, y1, n, rfl, rfl, rfl, hy0, hy1⟩ := open_agg2 Tryz.underlying25 (by kernel_rfl) cof_doc hv h
  obtain ⟨a0, n0, k0, rfl⟩ := slice_form Tryz.underlying22 hy0
  obtain ⟨a1, n1, k1, rfl⟩ := slice_form Tryz.underlying23 hy1
  obtain ⟨L0, s0, b0⟩ := ops_trod hy0
  obtain ⟨L1, s1, b1⟩ := frgs_trod hy1
  exact ⟨⟨L0, L1⟩, ⟨_, _, _, _, _, _, rfl, s0, s1⟩, b0, b1⟩
end
end Go.Proofs.YtbejhdhhkpllfaaGreatDoor
