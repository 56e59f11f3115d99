/- Equality of data as a Bool; elements' cells as values (definitions, inputs, fields, directives, arguments). -/
import Derived.Test.YtbejhdhhkpllfaaGreatDoorDa
set_option linter.unusedVariables false
set_option linter.unusedSimpArgs false
namespace Go.Proofs.YtbejhdhhkpllfaaGreatDoor
open Go.RowKit
noncomputable def eqB {α : Type} (a b : α) : Bool := @decide (a = b) (Classical.propDecidable _)
theorem eqB_iff {α : Type} {a b : α} : eqB a b = true ↔ a = b := by
  unfold eqB
  exact @decide_eq_true_iff (a = b) (Classical.propDecidable _)
theorem eqB_self {α : Type} (a : α) : eqB a a = true := eqB_iff.2 rfl
theorem eqB_ext {α β : Type} {a b : α} {c d : β} (h : a = b ↔ c = d) : eqB a b = eqB c d := by rw [Bool.eq_iff_iff, eqB_iff, eqB_iff, h]
theorem eqB_of {α : Type} {a b : α} {x : Bool} (h : x = true ↔ a = b) : x = eqB a b := by rw [Bool.eq_iff_iff, eqB_iff, h]
theorem eqB_cons {α : Type} (x y : α) (l m : List α) : eqB (x :: l) (y :: m) = (eqB x y && eqB l m) := by
  rw [Bool.eq_iff_iff, Bool.and_eq_true, eqB_iff, eqB_iff, eqB_iff, List.cons.injEq]
theorem eqB_len {α : Type} {L M : List α} (h : L.length ≠ M.length) : eqB L M = false := by
  rw [Bool.eq_false_iff]
  intro h'
  exact h (by rw [eqB_iff.1 h'])
theorem eqB_drop {α : Type} (L M : List α) (k : Nat) (h : k < L.length) (h' : k < M.length) : eqB (L.drop k) (M.drop k) = (eqB L[k] M[k] && eqB (L.drop (k + 1)) (M.drop (k + 1))) := by
  rw [List.drop_eq_getElem_cons h, List.drop_eq_getElem_cons h', eqB_cons]
theorem eqB_pair {α β : Type} (x y : α × β) : eqB x y = (eqB x.1 y.1 && eqB x.2 y.2) := by
  rw [Bool.eq_iff_iff, Bool.and_eq_true, eqB_iff, eqB_iff, eqB_iff, Prod.ext_iff]
theorem eqB_inp (x y : Inp) : eqB x y = (eqB x.name y.name && (eqB x.tnm y.tnm && eqB x.wr y.wr) && eqB x.has y.has && eqB x.dflt y.dflt && eqB x.dirs y.dirs) := by
  rw [Bool.eq_iff_iff]
  simp only [Bool.and_eq_true, eqB_iff]
  cases x; cases y
  simp only [Inp.mk.injEq]
  constructor
  · rintro ⟨h1, h2, h3, h4, h5, h6⟩; exact ⟨⟨⟨⟨h1, h2, h3⟩, h4⟩, h5⟩, h6⟩
  · rintro ⟨⟨⟨⟨h1, h2, h3⟩, h4⟩, h5⟩, h6⟩; exact ⟨h1, h2, h3, h4, h5, h6⟩
theorem eqB_fld (x y : Fld) : eqB x y = (eqB x.name y.name && eqB x.args y.args && (eqB x.tnm y.tnm && eqB x.wr y.wr) && eqB x.dirs y.dirs) := by
  rw [Bool.eq_iff_iff]
  simp only [Bool.and_eq_true, eqB_iff]
  cases x; cases y
  simp only [Fld.mk.injEq]
  constructor
  · rintro ⟨h1, h2, h3, h4, h5⟩; exact ⟨⟨⟨h1, h2⟩, h3, h4⟩, h5⟩
  · rintro ⟨⟨⟨h1, h2⟩, h3, h4⟩, h5⟩; exact ⟨h1, h2, h3, h4, h5⟩
theorem eqB_dfn (x y : Dfn) : eqB x y = (eqB x.kind y.kind && eqB x.name y.name && eqB x.dirs y.dirs && eqB x.names y.names && eqB x.inputs y.inputs && eqB x.fields y.fields) := by
  rw [Bool.eq_iff_iff]
  simp only [Bool.and_eq_true, eqB_iff]
  cases x; cases y
  simp only [Dfn.mk.injEq]
  constructor
  · rintro ⟨h1, h2, h3, h4, h5, h6⟩; exact ⟨⟨⟨⟨⟨h1, h2⟩, h3⟩, h4⟩, h5⟩, h6⟩
  · rintro ⟨⟨⟨⟨⟨h1, h2⟩, h3⟩, h4⟩, h5⟩, h6⟩; exact ⟨h1, h2, h3, h4, h5, h6⟩
theorem eqB_str (l m : List UInt8) : ((⟨l.toArray⟩ : ByteArray).toList == (⟨m.toArray⟩ : ByteArray).toList) = eqB l m := by
  rw [ByteArray.toList_eq, ByteArray.toList_eq]
  exact eqB_of (by rw [beq_iff_eq])
theorem eqB_kind (a b : UInt8) : ((a.toNat : Int) == (b.toNat : Int)) = eqB a b :=
  eqB_of (by rw [beq_iff_eq]; exact ⟨fun h => UInt8.toNat_inj.1 (by omega), fun h => by rw [h]⟩)
theorem eqB_bool (a b : Bool) : (a == b) = eqB a b := eqB_of (by rw [beq_iff_eq])
theorem sameV_eqB (L M : List Cel) : sameV L M = eqB L M := eqB_of (sameV_iff L M)
theorem rsame03_eq (L M : List Cel) (u v : Value) (hl : L.length ≤ 100000) (hm : M.length ≤ 100000) (w : World) (h1 : CelSl u L w) (h2 : CelSl v M w) :
    Calls Tryz.prog 52 #[u, v] w fun e w' => e = .returned (.bool (eqB L M)) ∧ Below w.heap.size w w' := by
  have := rsame03_any L M u v hl hm w h1 h2
  rw [sameV_eqB] at this
  exact this
/-! ### Elements as values -/
def NmV (v : Value) (x : List UInt8) (W : World) : Prop := v = .string ⟨x.toArray⟩
def XV {α : Type} (Sl : Value → α → World → Prop) (v : Value) (x : List UInt8 × α) (W : World) : Prop := ∃ a n c, v = .agg #[.string ⟨x.1.toArray⟩, .slice a n c] ∧ Sl (.slice a n c) x.2 W
abbrev ArgV : Value → ArgD → World → Prop := XV CelSl
abbrev DirV : Value → DirD → World → Prop := XV ArgSlc
def InpV (v : Value) (x : Inp) (W : World) : Prop := ∃ wa wn wc da dn dc ea en ec, v = .agg #[.string ⟨x.name.toArray⟩, .string ⟨x.tnm.toArray⟩, .slice wa wn wc, .bool x.has, .slice da dn dc, .slice ea en ec] ∧ BSl (.slice wa wn wc) x.wr W ∧ CelSl (.slice da dn dc) x.dflt W ∧ DirSlc (.slice ea en ec) x.dirs W
def FldV (v : Value) (x : Fld) (W : World) : Prop := ∃ aa an ac wa wn wc ea en ec, v = .agg #[.string ⟨x.name.toArray⟩, .slice aa an ac, .string ⟨x.tnm.toArray⟩, .slice wa wn wc, .slice ea en ec] ∧ InpSl (.slice aa an ac) x.args W ∧ BSl (.slice wa wn wc) x.wr W ∧ DirSlc (.slice ea en ec) x.dirs W
def DfnV (v : Value) (x : Dfn) (W : World) : Prop := ∃ da dn dc na nn nc ia in_ ic fa fn fc, v = .agg #[.int .u8 (x.kind.toNat : Int), .string ⟨x.name.toArray⟩, .slice da dn dc, .slice na nn nc, .slice ia in_ ic, .slice fa fn fc] ∧ DirSlc (.slice da dn dc) x.dirs W ∧ NmsSl (.slice na nn nc) x.names W ∧ InpSl (.slice ia in_ ic) x.inputs W ∧ FldSl (.slice fa fn fc) x.fields W
theorem ArgV.below {v : Value} {x : ArgD} {w w' : World} (h : ArgV v x w) (hb : Below w.heap.size w w') : ArgV v x w' := by
  obtain ⟨a, n, c, e, h1⟩ := h
  exact ⟨a, n, c, e, CelSl.below h1 hb⟩
theorem DirV.below {v : Value} {x : DirD} {w w' : World} (h : DirV v x w) (hb : Below w.heap.size w w') : DirV v x w' := by
  obtain ⟨a, n, c, e, h1⟩ := h
  exact ⟨a, n, c, e, ArgSlc.below h1 hb⟩
theorem InpV.below {v : Value} {x : Inp} {w w' : World} (h : InpV v x w) (hb : Below w.heap.size w w') : InpV v x w' := by
  obtain ⟨_, _, _, _, _, _, _, _, _, e, h1, h2, h3⟩ := h
  exact ⟨_, _, _, _, _, _, _, _, _, e, h1.below hb, h2.below hb, DirSlc.below h3 hb⟩
theorem FldV.below {v : Value} {x : Fld} {w w' : World} (h : FldV v x w) (hb : Below w.heap.size w w') : FldV v x w' := by
  obtain ⟨_, _, _, _, _, _, _, _, _, e, h1, h2, h3⟩ := h
  exact ⟨_, _, _, _, _, _, _, _, _, e, InpSl.below h1 hb, h2.below hb, DirSlc.below h3 hb⟩
theorem DfnV.below {v : Value} {x : Dfn} {w w' : World} (h : DfnV v x w) (hb : Below w.heap.size w w') : DfnV v x w' := by
  obtain ⟨_, _, _, _, _, _, _, _, _, _, _, _, e, h1, h2, h3, h4⟩ := h
  exact ⟨_, _, _, _, _, _, _, _, _, _, _, _, e, DirSlc.below h1 hb, NmsSl.below h2 hb, InpSl.below h3 hb, FldSl.below h4 hb⟩
theorem inp_at {b off : Nat} {L : List Inp} {W : World} (h : RowG 6 InpE ⟨b, off, none⟩ L W) (i : Nat) (hi : i < L.length) : ∃ wa wn wc da dn dc ea en ec,
    W.cell? ⟨b, off + i * 6, none⟩ = some (.string ⟨L[i].name.toArray⟩) ∧ W.cell? ⟨b, off + i * 6 + 1, none⟩ = some (.string ⟨L[i].tnm.toArray⟩) ∧ W.cell? ⟨b, off + i * 6 + 2, none⟩ = some (.slice wa wn wc) ∧ W.cell? ⟨b, off + i * 6 + 3, none⟩ = some (.bool L[i].has) ∧ W.cell? ⟨b, off + i * 6 + 4, none⟩ = some (.slice da dn dc) ∧ W.cell? ⟨b, off + i * 6 + 5, none⟩ = some (.slice ea en ec) ∧
    BSl (.slice wa wn wc) L[i].wr W ∧ CelSl (.slice da dn dc) L[i].dflt W ∧ DirSlc (.slice ea en ec) L[i].dirs W := by
  have h := h i hi
  unfold InpE at h
  simp only [StrC, SlC, addr_addB, Nat.add_zero] at h
  obtain ⟨h0, h1, ⟨wa, wn, wc, h2, g2⟩, h3, ⟨da, dn, dc, h4, g4⟩, ⟨ea, en, ec, h5, g5⟩⟩ := h
  exact ⟨wa, wn, wc, da, dn, dc, ea, en, ec, h0, h1, h2, h3, h4, h5, g2, g4, g5⟩
theorem fld_at {b off : Nat} {L : List Fld} {W : World} (h : RowG 5 FldE ⟨b, off, none⟩ L W) (i : Nat) (hi : i < L.length) : ∃ aa an ac wa wn wc ea en ec,
    W.cell? ⟨b, off + i * 5, none⟩ = some (.string ⟨L[i].name.toArray⟩) ∧ W.cell? ⟨b, off + i * 5 + 1, none⟩ = some (.slice aa an ac) ∧ W.cell? ⟨b, off + i * 5 + 2, none⟩ = some (.string ⟨L[i].tnm.toArray⟩) ∧ W.cell? ⟨b, off + i * 5 + 3, none⟩ = some (.slice wa wn wc) ∧ W.cell? ⟨b, off + i * 5 + 4, none⟩ = some (.slice ea en ec) ∧
    InpSl (.slice aa an ac) L[i].args W ∧ BSl (.slice wa wn wc) L[i].wr W ∧ DirSlc (.slice ea en ec) L[i].dirs W := by
  have h := h i hi
  unfold FldE at h
  simp only [StrC, SlC, addr_addB, Nat.add_zero] at h
  obtain ⟨h0, ⟨aa, an, ac, h1, g1⟩, h2, ⟨wa, wn, wc, h3, g3⟩, ⟨ea, en, ec, h4, g4⟩⟩ := h
  exact ⟨aa, an, ac, wa, wn, wc, ea, en, ec, h0, h1, h2, h3, h4, g1, g3, g4⟩
theorem dfn_at {b off : Nat} {L : List Dfn} {W : World} (h : RowG 6 DfnE ⟨b, off, none⟩ L W) (i : Nat) (hi : i < L.length) : ∃ da dn dc na nn nc ia in_ ic fa fn fc,
    W.cell? ⟨b, off + i * 6, none⟩ = some (.int .u8 (L[i].kind.toNat : Int)) ∧ W.cell? ⟨b, off + i * 6 + 1, none⟩ = some (.string ⟨L[i].name.toArray⟩) ∧ W.cell? ⟨b, off + i * 6 + 2, none⟩ = some (.slice da dn dc) ∧ W.cell? ⟨b, off + i * 6 + 3, none⟩ = some (.slice na nn nc) ∧ W.cell? ⟨b, off + i * 6 + 4, none⟩ = some (.slice ia in_ ic) ∧ W.cell? ⟨b, off + i * 6 + 5, none⟩ = some (.slice fa fn fc) ∧
    DirSlc (.slice da dn dc) L[i].dirs W ∧ NmsSl (.slice na nn nc) L[i].names W ∧ InpSl (.slice ia in_ ic) L[i].inputs W ∧ FldSl (.slice fa fn fc) L[i].fields W := by
  have h := h i hi
  unfold DfnE at h
  simp only [StrC, SlC, addr_addB, Nat.add_zero] at h
  obtain ⟨h0, h1, ⟨da, dn, dc, h2, g2⟩, ⟨na, nn, nc, h3, g3⟩, ⟨ia, in_, ic, h4, g4⟩, ⟨fa, fn, fc, h5, g5⟩⟩ := h
  exact ⟨da, dn, dc, na, nn, nc, ia, in_, ic, fa, fn, fc, h0, h1, h2, h3, h4, h5, g2, g3, g4, g5⟩
theorem nm_at {b off : Nat} {L : List (List UInt8)} {W : World} (h : RowG 1 StrC ⟨b, off, none⟩ L W) (i : Nat) (hi : i < L.length) : W.cell? ⟨b, off + i, none⟩ = some (.string ⟨L[i].toArray⟩) := by
  have h := h i hi
  rw [Nat.mul_one, addr_addB] at h
  exact h
theorem RowG.below {α : Type} {k : Nat} {E : Addr → α → World → Prop} {a : Addr} {L : List α} {w w' : World} (h : RowG k E a L w) (hE : ∀ a x, E a x w → E a x w') : RowG k E a L w' := fun i hi => hE _ _ (h i hi)
end Go.Proofs.YtbejhdhhkpllfaaGreatDoor
