/- Walks and plain laws of this proof, joined from smaller texts (5). -/
import Derived.Deep.DeepCutAuto
import Derived.Maps.RangeWalk
import Derived.Laws.RangeAny
import Derived.Laws.Cover4
import Derived.Laws.RangeString
import Derived.Deep.QuietTactic
import Derived.BigQuiet
import Derived.Lib.IndexAny
import Derived.Lib.OthersKept
import Derived.Deep.LoopGhost
import Derived.Test.YtjhgiojmlkeccaaGreatDoorW4
set_option linter.unusedSimpArgs false
set_option linter.unusedVariables false
namespace Go.Proofs.YtjhgiojmlkeccaaGreatDoor
open Go.RowKit
/-- The address's cells stand, and nothing older has turned. -/
def KS (sc us ho po pa qu : ByteArray) (hu hq : Bool) (w W : World) : Prop := W.cell? ⟨w.heap.size, 0, none⟩ = some (.string sc) ∧ W.cell? ⟨w.heap.size, 1, none⟩ = some (.string us) ∧ W.cell? ⟨w.heap.size, 2, none⟩ = some (.string ho) ∧ W.cell? ⟨w.heap.size, 3, none⟩ = some (.string po) ∧ W.cell? ⟨w.heap.size, 4, none⟩ = some (.string pa) ∧ W.cell? ⟨w.heap.size, 5, none⟩ = some (.string qu) ∧ W.cell? ⟨w.heap.size, 6, none⟩ = some (.bool hu) ∧ W.cell? ⟨w.heap.size, 7, none⟩ = some (.bool hq) ∧ w.heap.size < W.heap.size ∧ Below w.heap.size w W
theorem KS.below {sc us ho po pa qu : ByteArray} {hu hq : Bool} {w W w1 : World} (hb : Below W.heap.size W w1) (h : W.cell? ⟨w.heap.size, 0, none⟩ = some (.string sc) ∧ W.cell? ⟨w.heap.size, 1, none⟩ = some (.string us) ∧ W.cell? ⟨w.heap.size, 2, none⟩ = some (.string ho) ∧ W.cell? ⟨w.heap.size, 3, none⟩ = some (.string po) ∧ W.cell? ⟨w.heap.size, 4, none⟩ = some (.string pa) ∧ W.cell? ⟨w.heap.size, 5, none⟩ = some (.string qu) ∧ W.cell? ⟨w.heap.size, 6, none⟩ = some (.bool hu) ∧ W.cell? ⟨w.heap.size, 7, none⟩ = some (.bool hq) ∧ w.heap.size < W.heap.size ∧ Below w.heap.size w W) : w1.cell? ⟨w.heap.size, 0, none⟩ = some (.string sc) ∧ w1.cell? ⟨w.heap.size, 1, none⟩ = some (.string us) ∧ w1.cell? ⟨w.heap.size, 2, none⟩ = some (.string ho) ∧ w1.cell? ⟨w.heap.size, 3, none⟩ = some (.string po) ∧ w1.cell? ⟨w.heap.size, 4, none⟩ = some (.string pa) ∧ w1.cell? ⟨w.heap.size, 5, none⟩ = some (.string qu) ∧ w1.cell? ⟨w.heap.size, 6, none⟩ = some (.bool hu) ∧ w1.cell? ⟨w.heap.size, 7, none⟩ = some (.bool hq) ∧ w.heap.size < w1.heap.size ∧ Below w.heap.size w w1 := by
  obtain ⟨a0, a1, a2, a3, a4, a5, a6, a7, hl, hw⟩ := h
  obtain ⟨cc, ff⟩ := bcellQ hb
  exact ⟨(cc _ _ hl).trans a0, (cc _ _ hl).trans a1, (cc _ _ hl).trans a2, (cc _ _ hl).trans a3, (cc _ _ hl).trans a4, (cc _ _ hl).trans a5, (cc _ _ hl).trans a6, (cc _ _ hl).trans a7, Nat.lt_of_lt_of_le hl hb.size, hw.trans (hb.mono hw.size)⟩
theorem KS.alloc {sc us ho po pa qu : ByteArray} {hu hq : Bool} {w W : World} (o : Obj) (h : W.cell? ⟨w.heap.size, 0, none⟩ = some (.string sc) ∧ W.cell? ⟨w.heap.size, 1, none⟩ = some (.string us) ∧ W.cell? ⟨w.heap.size, 2, none⟩ = some (.string ho) ∧ W.cell? ⟨w.heap.size, 3, none⟩ = some (.string po) ∧ W.cell? ⟨w.heap.size, 4, none⟩ = some (.string pa) ∧ W.cell? ⟨w.heap.size, 5, none⟩ = some (.string qu) ∧ W.cell? ⟨w.heap.size, 6, none⟩ = some (.bool hu) ∧ W.cell? ⟨w.heap.size, 7, none⟩ = some (.bool hq) ∧ w.heap.size < W.heap.size ∧ Below w.heap.size w W) : (W.alloc o).cell? ⟨w.heap.size, 0, none⟩ = some (.string sc) ∧ (W.alloc o).cell? ⟨w.heap.size, 1, none⟩ = some (.string us) ∧ (W.alloc o).cell? ⟨w.heap.size, 2, none⟩ = some (.string ho) ∧ (W.alloc o).cell? ⟨w.heap.size, 3, none⟩ = some (.string po) ∧ (W.alloc o).cell? ⟨w.heap.size, 4, none⟩ = some (.string pa) ∧ (W.alloc o).cell? ⟨w.heap.size, 5, none⟩ = some (.string qu) ∧ (W.alloc o).cell? ⟨w.heap.size, 6, none⟩ = some (.bool hu) ∧ (W.alloc o).cell? ⟨w.heap.size, 7, none⟩ = some (.bool hq) ∧ w.heap.size < (W.alloc o).heap.size ∧ Below w.heap.size w (W.alloc o) :=
  KS.below ((Below.refl _ _).alloc (Nat.le_refl _) o) h
theorem KS.drew {sc us ho po pa qu : ByteArray} {hu hq : Bool} {w W : World} (h : W.cell? ⟨w.heap.size, 0, none⟩ = some (.string sc) ∧ W.cell? ⟨w.heap.size, 1, none⟩ = some (.string us) ∧ W.cell? ⟨w.heap.size, 2, none⟩ = some (.string ho) ∧ W.cell? ⟨w.heap.size, 3, none⟩ = some (.string po) ∧ W.cell? ⟨w.heap.size, 4, none⟩ = some (.string pa) ∧ W.cell? ⟨w.heap.size, 5, none⟩ = some (.string qu) ∧ W.cell? ⟨w.heap.size, 6, none⟩ = some (.bool hu) ∧ W.cell? ⟨w.heap.size, 7, none⟩ = some (.bool hq) ∧ w.heap.size < W.heap.size ∧ Below w.heap.size w W) : W.drew.cell? ⟨w.heap.size, 0, none⟩ = some (.string sc) ∧ W.drew.cell? ⟨w.heap.size, 1, none⟩ = some (.string us) ∧ W.drew.cell? ⟨w.heap.size, 2, none⟩ = some (.string ho) ∧ W.drew.cell? ⟨w.heap.size, 3, none⟩ = some (.string po) ∧ W.drew.cell? ⟨w.heap.size, 4, none⟩ = some (.string pa) ∧ W.drew.cell? ⟨w.heap.size, 5, none⟩ = some (.string qu) ∧ W.drew.cell? ⟨w.heap.size, 6, none⟩ = some (.bool hu) ∧ W.drew.cell? ⟨w.heap.size, 7, none⟩ = some (.bool hq) ∧ w.heap.size < W.drew.heap.size ∧ Below w.heap.size w W.drew :=
  KS.below ((Below.refl _ _).drew) h
theorem KS.allocd {sc us ho po pa qu : ByteArray} {hu hq : Bool} {w W : World} (o : Obj) (h : W.drew.cell? ⟨w.heap.size, 0, none⟩ = some (.string sc) ∧ W.drew.cell? ⟨w.heap.size, 1, none⟩ = some (.string us) ∧ W.drew.cell? ⟨w.heap.size, 2, none⟩ = some (.string ho) ∧ W.drew.cell? ⟨w.heap.size, 3, none⟩ = some (.string po) ∧ W.drew.cell? ⟨w.heap.size, 4, none⟩ = some (.string pa) ∧ W.drew.cell? ⟨w.heap.size, 5, none⟩ = some (.string qu) ∧ W.drew.cell? ⟨w.heap.size, 6, none⟩ = some (.bool hu) ∧ W.drew.cell? ⟨w.heap.size, 7, none⟩ = some (.bool hq) ∧ w.heap.size < W.drew.heap.size ∧ Below w.heap.size w W.drew) : (W.alloc o).drew.cell? ⟨w.heap.size, 0, none⟩ = some (.string sc) ∧ (W.alloc o).drew.cell? ⟨w.heap.size, 1, none⟩ = some (.string us) ∧ (W.alloc o).drew.cell? ⟨w.heap.size, 2, none⟩ = some (.string ho) ∧ (W.alloc o).drew.cell? ⟨w.heap.size, 3, none⟩ = some (.string po) ∧ (W.alloc o).drew.cell? ⟨w.heap.size, 4, none⟩ = some (.string pa) ∧ (W.alloc o).drew.cell? ⟨w.heap.size, 5, none⟩ = some (.string qu) ∧ (W.alloc o).drew.cell? ⟨w.heap.size, 6, none⟩ = some (.bool hu) ∧ (W.alloc o).drew.cell? ⟨w.heap.size, 7, none⟩ = some (.bool hq) ∧ w.heap.size < (W.alloc o).drew.heap.size ∧ Below w.heap.size w (W.alloc o).drew :=
  KS.alloc (W := W.drew) o h
theorem new_cell (W : World) (A : Array Value) (T : TypeId) (i : Nat) (v : Value) (h : A[i]? = some v) : (W.alloc (.cells A T)).cell? ⟨W.heap.size, i, none⟩ = some v := by
  rw [Lib.cell_of_heap (heap_alloc_new W _)]; exact h
theorem new_celld (W : World) (A : Array Value) (T : TypeId) (i : Nat) (v : Value) (h : A[i]? = some v) : ((W.alloc (.cells A T)).drew).cell? ⟨W.heap.size, i, none⟩ = some v := new_cell W A T i v h
theorem new_lt (W : World) (o : Obj) : W.heap.size < (W.alloc o).heap.size := by simp
theorem new_ltd (W : World) (o : Obj) : W.heap.size < ((W.alloc o).drew).heap.size := by simp
/-- An operation that is not wanted is taken first. -/
theorem tknQ {P : Program} {ops : Array Oper} {Q : Exit → Act → World → Prop} {md : Region.Mode} {S : World → Prop} (i : Nat) (d : Option Tmp) {oi : Oper} {fuel : Nat} {listed : Array Bool} {a : Act} {w : World} (hi' : ops.toList[i]? = some oi)
    (hk : (Region.noSelect ops && Region.free md ops listed i && (Region.ready md ops listed).contains i) = true) (hw : Region.wanted oi (yielded ops a.tmps) = false)
    (hd : oi.dst = d) (hQ : ∀ c a w, Q (.panic c) (a.put d undef) w → Q (.panic c) a w) (hS : S w)
    (h : wpAnyH P md ops Q S fuel (listed.setIfInBounds i true) (a.put d undef) w) : wpAnyH P md ops Q S (fuel + 1) listed a w := by
  have hi : ops[i]? = some oi := by rw [← Array.getElem?_toList]; exact hi'
  subst hd
  simp only [Bool.and_eq_true] at hk
  exact wpAnyH_take hi hk.1.1 hk.1.2 hk.2 hQ (Or.inr ⟨hw, rfl⟩) hS h
/-- An operation that yields in every world that meets S is taken first. -/
theorem tkyQ {P : Program} {ops : Array Oper} {Q : Exit → Act → World → Prop} {md : Region.Mode} {S : World → Prop} (i : Nat) (d : Option Tmp) {v : Value} {oi : Oper} {fuel : Nat} {listed : Array Bool} {a : Act} {w : World} (hi' : ops.toList[i]? = some oi)
    (hk : (Region.noSelect ops && Region.free md ops listed i && (Region.ready md ops listed).contains i) = true) (hw : Region.wanted oi (yielded ops a.tmps) = true)
    (hd : oi.dst = d) (hQ : ∀ c a w, Q (.panic c) (a.put d v) w → Q (.panic c) a w) (hy : ∀ w, S w → (execOp a.eval oi).run P w = .ok (.value v) w) (hS : S w)
    (h : wpAnyH P md ops Q S fuel (listed.setIfInBounds i true) (a.put d v) w) : wpAnyH P md ops Q S (fuel + 1) listed a w := by
  have hi : ops[i]? = some oi := by rw [← Array.getElem?_toList]; exact hi'
  subst hd
  simp only [Bool.and_eq_true] at hk
  exact wpAnyH_take hi hk.1.1 hk.1.2 hk.2 hQ (Or.inl ⟨hw, hy⟩) hS h
/-- What is carried out comes up alone. -/
theorem rconsQ {P : Program} {ops : Array Oper} {Q : Exit → Act → World → Prop} {md : Region.Mode} {S : World → Prop} (i : Nat) {fuel : Nat} {listed : Array Bool} {a : Act} {w : World} {o : Oper} (ho : ops.toList[i]? = some o) (hr : Region.ready md ops listed = [i])
    (h : ∀ K' : Act → World → Prop, Shut (∀ a w, S w → (S w → wpAnyH P md ops Q S fuel (listed.setIfInBounds i true) a w) → K' a w) → if Region.wanted o (yielded ops a.tmps) = true then Oper.wp P o a w K' Q else K' (a.put o.dst undef) w) : wpAnyH P md ops Q S (fuel + 1) listed a w :=
  wpAnyH_ready (rs := [i]) hr (by simp) (AllReadyH.cons (by rw [← Array.getElem?_toList]; exact ho) h AllReadyH.nil)
theorem KS.start (sc us ho po pa qu : ByteArray) (hu hq : Bool) (w : World) : (w.alloc (.cells #[.string sc, .string us, .string ho, .string po, .string pa, .string qu, .bool hu, .bool hq] 101)).cell? ⟨w.heap.size, 0, none⟩ = some (.string sc) ∧ (w.alloc (.cells #[.string sc, .string us, .string ho, .string po, .string pa, .string qu, .bool hu, .bool hq] 101)).cell? ⟨w.heap.size, 1, none⟩ = some (.string us) ∧ (w.alloc (.cells #[.string sc, .string us, .string ho, .string po, .string pa, .string qu, .bool hu, .bool hq] 101)).cell? ⟨w.heap.size, 2, none⟩ = some (.string ho) ∧ (w.alloc (.cells #[.string sc, .string us, .string ho, .string po, .string pa, .string qu, .bool hu, .bool hq] 101)).cell? ⟨w.heap.size, 3, none⟩ = some (.string po) ∧ (w.alloc (.cells #[.string sc, .string us, .string ho, .string po, .string pa, .string qu, .bool hu, .bool hq] 101)).cell? ⟨w.heap.size, 4, none⟩ = some (.string pa) ∧ (w.alloc (.cells #[.string sc, .string us, .string ho, .string po, .string pa, .string qu, .bool hu, .bool hq] 101)).cell? ⟨w.heap.size, 5, none⟩ = some (.string qu) ∧ (w.alloc (.cells #[.string sc, .string us, .string ho, .string po, .string pa, .string qu, .bool hu, .bool hq] 101)).cell? ⟨w.heap.size, 6, none⟩ = some (.bool hu) ∧ (w.alloc (.cells #[.string sc, .string us, .string ho, .string po, .string pa, .string qu, .bool hu, .bool hq] 101)).cell? ⟨w.heap.size, 7, none⟩ = some (.bool hq) ∧ w.heap.size < (w.alloc (.cells #[.string sc, .string us, .string ho, .string po, .string pa, .string qu, .bool hu, .bool hq] 101)).heap.size ∧ Below w.heap.size w (w.alloc (.cells #[.string sc, .string us, .string ho, .string po, .string pa, .string qu, .bool hu, .bool hq] 101)) := by
  refine ⟨by simp [go_sem], by simp [go_sem], by simp [go_sem], by simp [go_sem], by simp [go_sem], by simp [go_sem], by simp [go_sem], by simp [go_sem], by simp, (Below.refl _ _).alloc (Nat.le_refl _) _⟩
theorem contains_one (l : List UInt8) (c : UInt8) : decide (0 ≤ Lib.indexByte l c) = l.contains c := by
  rw [indexByte_ahead]
  cases l.contains c
  · rfl
  · simp
theorem made_all (p : UInt8 → Bool) : ∀ l : List UInt8, l.contains 37 = false → madeB p l = l.all p
  | [], _ => rfl
  | a :: r, h => by
    have h1 : (a == 37) = false := by
      cases q : (a == 37)
      · rfl
      · rw [List.contains_cons, show ((37 : UInt8) == a) = true by rw [beq_iff_eq] at q ⊢; exact q.symm] at h; cases h
    have h2 : r.contains 37 = false := by
      cases q : r.contains 37
      · rfl
      · rw [List.contains_cons, q, Bool.or_true] at h; cases h
    have he : esc (a :: r) = false := by
      match r with
      | [] => rfl
      | [b] => rfl
      | b :: c :: r' => simp [esc, h1]
    rw [madeB_cons, he, List.all_cons, made_all p r h2]
    rfl
theorem okS_37 : okS 37 = false := by decide
theorem scheme_parts : ∀ l : List UInt8, schemeB l = (!l.isEmpty && (match l.head? with | some c => isLet c | none => false) && !l.contains 37 && madeB okS l)
  | [] => rfl
  | c :: r => by
    cases hc : (c :: r).contains 37 with
    | false =>
      rw [made_all okS _ hc]
      show (isLet c && r.all okS) = _
      simp only [List.isEmpty_cons, List.head?_cons, Bool.not_false, Bool.true_and, Bool.and_true, List.all_cons]
      cases h : isLet c
      · rfl
      · have : okS c = true := by unfold okS; rw [h]; rfl
        rw [this]; rfl
    | true =>
      show (isLet c && r.all okS) = _
      simp only [Bool.not_true, Bool.and_false, Bool.false_and]
      rw [List.contains_iff_mem] at hc
      rcases List.mem_cons.1 hc with h | h
      · rw [← h, show isLet 37 = false by decide]; rfl
      · rw [Bool.and_eq_false_iff]
        right
        rw [List.all_eq_false]
        exact ⟨37, h, by rw [okS_37]; decide⟩
set_option maxRecDepth 100000 in
set_option maxHeartbeats 8000000 in
theorem check_any (sc us ho po pa qu : ByteArray) (hu hq : Bool) (h1 : sc.size ≤ 100000) (h2 : us.size ≤ 100000) (h3 : ho.size ≤ 100000) (h4 : po.size ≤ 100000) (h5 : pa.size ≤ 100000) (h6 : qu.size ≤ 100000) (w : World) :
    Calls Tryz.prog 98 #[.agg #[.string sc, .string us, .string ho, .string po, .string pa, .string qu, .bool hu, .bool hq]] w fun e w' => e = .returned (.int .i64 (if mayL sc.data.toList us.data.toList ho.data.toList po.data.toList pa.data.toList qu.data.toList hu hq then 0 else 150)) ∧ Below w.heap.size w w' := by
  obtain ⟨A1, hA1, HO1, HH1, HM1⟩ := set_letters
  obtain ⟨A2, hA2, HO2, HH2, HM2⟩ := set_scheme
  obtain ⟨A3, hA3, HO3, HH3, HM3⟩ := set_user
  obtain ⟨A4, hA4, HO4, HH4, HM4⟩ := set_host
  obtain ⟨A5, hA5, HO5, HH5, HM5⟩ := set_path
  obtain ⟨A6, hA6, HO6, HH6, HM6⟩ := set_query
  clear HM1 HH2 HH3 HH4 HH5 HH6 hA1 hA2 hA3 hA4 hA5 hA6
  have HM2 := Lib.hid (fun V => HM2.out V sc (by omega))
  have HM3 := Lib.hid (fun V => HM3.out V us (by omega))
  have HM4 := Lib.hid (fun V => HM4.out V ho (by omega))
  have HM5 := Lib.hid (fun V => HM5.out V pa (by omega))
  have HM6 := Lib.hid (fun V => HM6.out V qu (by omega))
  have HC := Lib.hid (fun V => scontains_one sc 37 V)
  have HT := Lib.hid (fun V => Any.strings_Trim_laid Tryz.lays160 (by kernel_rfl) po ⟨#[48, 49, 50, 51, 52, 53, 54, 55, 56, 57]⟩ V (by omega) (by decide) (ascii_of_all (by decide)))
  have HTL := Lib.hid (fun V => tell_any sc us ho po pa qu hu hq h1 h2 h3 h4 h5 h6 V)
  obtain ⟨r, hr⟩ : ∃ r, mayL sc.data.toList us.data.toList ho.data.toList po.data.toList pa.data.toList qu.data.toList hu hq = r := ⟨_, rfl⟩
  have hT := tell_size sc.data.toList us.data.toList ho.data.toList po.data.toList pa.data.toList qu.data.toList hu hq
  rw [hr]
  unfold mayL oneL twoL at hr
  rw [scheme_parts] at hr
  obtain ⟨tx, htx⟩ : ∃ t : ByteArray, (⟨(tellL sc.data.toList us.data.toList ho.data.toList po.data.toList pa.data.toList qu.data.toList hu hq).toArray⟩ : ByteArray) = t := ⟨_, rfl⟩
  rw [htx] at hT HTL
  clear htx
  generalize (tellL sc.data.toList us.data.toList ho.data.toList po.data.toList pa.data.toList qu.data.toList hu hq).length = n at *
  generalize madeB okS sc.data.toList = b1 at *
  generalize sc.data.toList.contains 37 = bc at *
  generalize madeB (mayBQ [58]) us.data.toList = b2 at *
  generalize madeB (mayBQ []) ho.data.toList = b3 at *
  generalize madeB (mayBQ [58, 64, 47]) pa.data.toList = b5 at *
  generalize madeB (mayBQ [58, 64, 47, 63]) qu.data.toList = b6 at *
  obtain ⟨b4, hb4⟩ : ∃ b, po.data.toList.all isDig = b := ⟨_, rfl⟩
  obtain ⟨tp, htp⟩ : ∃ t : ByteArray, (⟨(Lib.trimS po.data.toList (⟨#[48, 49, 50, 51, 52, 53, 54, 55, 56, 57]⟩ : ByteArray).data.toList).toArray⟩ : ByteArray) = t := ⟨_, rfl⟩
  have HP4 : Hid ((b4 = true ∧ tp.toList = [] ∧ tp.toList.isEmpty = true) ∨ (b4 = false ∧ ¬ tp.toList = [] ∧ tp.toList.isEmpty = false)) := Lib.hid (by
    have e : tp.toList = Lib.trimS po.data.toList [48, 49, 50, 51, 52, 53, 54, 55, 56, 57] := by rw [← htp, ByteArray.toList_eq]
    cases b4
    · right
      have : ¬ tp.toList = [] := fun q => by
        rw [e] at q
        have := (trim_digits _).1 q
        rw [hb4] at this
        cases this
      refine ⟨rfl, this, ?_⟩
      cases q : tp.toList
      · exact absurd q this
      · rfl
    · left
      have : tp.toList = [] := by rw [e]; exact (trim_digits _).2 hb4
      exact ⟨rfl, this, by rw [this]; rfl⟩)
  rw [htp] at HT
  rw [hb4] at hr
  clear hb4 htp
  subst hT
  have HR := Lib.hid hr
  clear hr
  go_enter Tryz.func98, Tryz.ntmps98
  go_upto_region 1 with fail
  go_cut [3] (fun s3 wx => s3 = .bool (!sc.data.toList.isEmpty && (match sc.data.toList.head? with | some c => isLet c | none => false) && !bc && b1) ∧ KS sc us ho po pa qu hu hq w wx)
  case first =>
    have hst := KS.start sc us ho po pa qu hu hq w
    obtain ⟨a0, a1, a2, a3, a4, a5, a6, a7, hl, hw⟩ := hst
    generalize w.alloc (.cells #[.string sc, .string us, .string ho, .string po, .string pa, .string qu, .bool hu, .bool hq] 101) = W0 at *
    rcases first_cases sc with ⟨p1, p2, p3, p4⟩ | ⟨p1, p2, p3, p4, p5⟩
    · have P4 := Lib.hid p4
      clear p4
      refine wp_region_held_drew (S := (fun W => W.cell? ⟨w.heap.size, 0, none⟩ = some (.string sc) ∧ W.cell? ⟨w.heap.size, 1, none⟩ = some (.string us) ∧ W.cell? ⟨w.heap.size, 2, none⟩ = some (.string ho) ∧ W.cell? ⟨w.heap.size, 3, none⟩ = some (.string po) ∧ W.cell? ⟨w.heap.size, 4, none⟩ = some (.string pa) ∧ W.cell? ⟨w.heap.size, 5, none⟩ = some (.string qu) ∧ W.cell? ⟨w.heap.size, 6, none⟩ = some (.bool hu) ∧ W.cell? ⟨w.heap.size, 7, none⟩ = some (.bool hq) ∧ w.heap.size < W.heap.size ∧ Below w.heap.size w W)) (by kernel_rfl) (KS.drew ⟨a0, a1, a2, a3, a4, a5, a6, a7, hl, hw⟩) (fun hHeld => ?_)
      refine tkyQ 0 (some 6) (v := ?_) rfl (by kernel_rfl) (by kernel_rfl) (by kernel_rfl) (fun _ _ _ h => h) ?_ hHeld ?_
      rotate_left
      focus (intro w hSw; (try dsimp only at hSw); go_simp; (try with_reducible rfl); done)
      go_frame
      refine tkyQ 1 (some 7) (v := ?_) rfl (by kernel_rfl) (by kernel_rfl) (by kernel_rfl) (fun _ _ _ h => h) ?_ hHeld ?_
      rotate_left
      focus (intro w hSw; (try dsimp only at hSw); go_simp; (try with_reducible rfl); done)
      go_frame
      refine tkyQ 2 (some 8) (v := ?_) rfl (by kernel_rfl) (by kernel_rfl) (by kernel_rfl) (fun _ _ _ h => h) ?_ hHeld ?_
      rotate_left
      focus (intro w hSw; (try dsimp only at hSw); go_simp; (try with_reducible rfl); done)
      go_frame
      refine tkyQ 3 (some 9) (v := ?_) rfl (by kernel_rfl) (by kernel_rfl) (by kernel_rfl) (fun _ _ _ h => h) ?_ hHeld ?_
      rotate_left
      focus (intro w hSw; (try dsimp only at hSw); go_simp; (try with_reducible rfl); done)
      go_frame
      refine tknQ 4 (some 10) rfl (by kernel_rfl) (by kernel_rfl) (by kernel_rfl) (fun _ _ _ h => h) hHeld ?_
      go_frame
      refine tknQ 5 (some 11) rfl (by kernel_rfl) (by kernel_rfl) (by kernel_rfl) (fun _ _ _ h => h) hHeld ?_
      go_frame
      refine tknQ 6 (some 12) rfl (by kernel_rfl) (by kernel_rfl) (by kernel_rfl) (fun _ _ _ h => h) hHeld ?_
      go_frame
      refine tknQ 7 (some 13) rfl (by kernel_rfl) (by kernel_rfl) (by kernel_rfl) (fun _ _ _ h => h) hHeld ?_
      go_frame
      refine tknQ 8 (some 14) rfl (by kernel_rfl) (by kernel_rfl) (by kernel_rfl) (fun _ _ _ h => h) hHeld ?_
      go_frame
      refine tknQ 9 (some 15) rfl (by kernel_rfl) (by kernel_rfl) (by kernel_rfl) (fun _ _ _ h => h) hHeld ?_
      go_frame
      refine tkyQ 10 (some 16) (v := ?_) rfl (by kernel_rfl) (by kernel_rfl) (by kernel_rfl) (fun _ _ _ h => h) ?_ hHeld ?_
      rotate_left
      focus (intro w hSw; (try dsimp only at hSw); go_simp; (try with_reducible rfl); done)
      go_frame
      refine tkyQ 11 (some 17) (v := ?_) rfl (by kernel_rfl) (by kernel_rfl) (by kernel_rfl) (fun _ _ _ h => h) ?_ hHeld ?_
      rotate_left
      focus (intro w hSw; (try dsimp only at hSw); go_simp; (try with_reducible rfl); done)
      go_frame
      refine tknQ 12 (some 18) rfl (by kernel_rfl) (by kernel_rfl) (by kernel_rfl) (fun _ _ _ h => h) hHeld ?_
      go_frame
      refine tknQ 13 (some 19) rfl (by kernel_rfl) (by kernel_rfl) (by kernel_rfl) (fun _ _ _ h => h) hHeld ?_
      go_frame
      refine tknQ 14 (some 20) rfl (by kernel_rfl) (by kernel_rfl) (by kernel_rfl) (fun _ _ _ h => h) hHeld ?_
      go_frame
      refine tknQ 15 (some 21) rfl (by kernel_rfl) (by kernel_rfl) (by kernel_rfl) (fun _ _ _ h => h) hHeld ?_
      go_frame
      refine tkyQ 16 (some 22) (v := ?_) rfl (by kernel_rfl) (by kernel_rfl) (by kernel_rfl) (fun _ _ _ h => h) ?_ hHeld ?_
      rotate_left
      focus (intro w hSw; (try dsimp only at hSw); go_simp; (try with_reducible rfl); done)
      go_frame
      refine tkyQ 17 (some 23) (v := ?_) rfl (by kernel_rfl) (by kernel_rfl) (by kernel_rfl) (fun _ _ _ h => h) ?_ hHeld ?_
      rotate_left
      focus (intro w hSw; (try dsimp only at hSw); go_simp; (try with_reducible rfl); done)
      go_frame
      refine tknQ 18 (some 24) rfl (by kernel_rfl) (by kernel_rfl) (by kernel_rfl) (fun _ _ _ h => h) hHeld ?_
      go_frame
      refine tknQ 19 (some 25) rfl (by kernel_rfl) (by kernel_rfl) (by kernel_rfl) (fun _ _ _ h => h) hHeld ?_
      go_frame
      refine tknQ 20 (some 26) rfl (by kernel_rfl) (by kernel_rfl) (by kernel_rfl) (fun _ _ _ h => h) hHeld ?_
      go_frame
      refine tknQ 21 (some 27) rfl (by kernel_rfl) (by kernel_rfl) (by kernel_rfl) (fun _ _ _ h => h) hHeld ?_
      go_frame
      refine tknQ 22 (some 28) rfl (by kernel_rfl) (by kernel_rfl) (by kernel_rfl) (fun _ _ _ h => h) hHeld ?_
      go_frame
      refine tkyQ 23 (some 29) (v := ?_) rfl (by kernel_rfl) (by kernel_rfl) (by kernel_rfl) (fun _ _ _ h => h) ?_ hHeld ?_
      rotate_left
      focus (intro w hSw; (try dsimp only at hSw); go_simp; (try with_reducible rfl); done)
      go_frame
      refine tkyQ 24 (some 3) (v := ?_) rfl (by kernel_rfl) (by kernel_rfl) (by kernel_rfl) (fun _ _ _ h => h) ?_ hHeld ?_
      rotate_left
      focus (intro w hSw; (try dsimp only at hSw); go_simp; (try with_reducible rfl); done)
      go_frame
      refine wpAnyH_done (by kernel_rfl) ?_ _
      go_wp2_with fail
      go_meet
      refine ⟨congrArg Value.bool ?_, hHeld⟩
      ((try rw [P4.out]); (try rw [P5.out]); (try rw [Q4.out]); (try simp only [HBL.out]); (first | rfl | (simp; done)))
    · have P4 := Lib.hid p4
      have P5 := Lib.hid p5
      clear p4 p5
      have HL := Lib.hid (fun V => HH1.out V sc[0])
      obtain ⟨bl, hbl⟩ : ∃ b, isLet sc[0] = b := ⟨_, rfl⟩
      rw [hbl] at HL
      have HBL := Lib.hid hbl
      clear hbl
      cases bl
      · refine wp_region_held_drew (S := (fun W => W.cell? ⟨w.heap.size, 0, none⟩ = some (.string sc) ∧ W.cell? ⟨w.heap.size, 1, none⟩ = some (.string us) ∧ W.cell? ⟨w.heap.size, 2, none⟩ = some (.string ho) ∧ W.cell? ⟨w.heap.size, 3, none⟩ = some (.string po) ∧ W.cell? ⟨w.heap.size, 4, none⟩ = some (.string pa) ∧ W.cell? ⟨w.heap.size, 5, none⟩ = some (.string qu) ∧ W.cell? ⟨w.heap.size, 6, none⟩ = some (.bool hu) ∧ W.cell? ⟨w.heap.size, 7, none⟩ = some (.bool hq) ∧ w.heap.size < W.heap.size ∧ Below w.heap.size w W)) (by kernel_rfl) (KS.drew ⟨a0, a1, a2, a3, a4, a5, a6, a7, hl, hw⟩) (fun hHeld => ?_)
        refine tkyQ 0 (some 6) (v := ?_) rfl (by kernel_rfl) (by kernel_rfl) (by kernel_rfl) (fun _ _ _ h => h) ?_ hHeld ?_
        rotate_left
        focus (intro w hSw; (try dsimp only at hSw); go_simp; (try with_reducible rfl); done)
        go_frame
        refine tkyQ 1 (some 7) (v := ?_) rfl (by kernel_rfl) (by kernel_rfl) (by kernel_rfl) (fun _ _ _ h => h) ?_ hHeld ?_
        rotate_left
        focus (intro w hSw; (try dsimp only at hSw); go_simp; (try with_reducible rfl); done)
        go_frame
        refine tkyQ 2 (some 8) (v := ?_) rfl (by kernel_rfl) (by kernel_rfl) (by kernel_rfl) (fun _ _ _ h => h) ?_ hHeld ?_
        rotate_left
        focus (intro w hSw; (try dsimp only at hSw); go_simp; (try with_reducible rfl); done)
        go_frame
        refine tkyQ 3 (some 9) (v := ?_) rfl (by kernel_rfl) (by kernel_rfl) (by kernel_rfl) (fun _ _ _ h => h) ?_ hHeld ?_
        rotate_left
        focus (intro w hSw; (try dsimp only at hSw); go_simp; (try with_reducible rfl); done)
        go_frame
        refine tkyQ 6 (some 12) (v := ?_) rfl (by kernel_rfl) (by kernel_rfl) (by kernel_rfl) (fun _ _ _ h => h) ?_ hHeld ?_
        rotate_left
        focus (intro w hSw; (try dsimp only at hSw); go_simp; (try with_reducible rfl); done)
        go_frame
        refine tkyQ 7 (some 13) (v := ?_) rfl (by kernel_rfl) (by kernel_rfl) (by kernel_rfl) (fun _ _ _ h => h) ?_ hHeld ?_
        rotate_left
        focus (intro w hSw; (try dsimp only at hSw); go_simp; (try with_reducible rfl); done)
        go_frame
        refine tkyQ 8 (some 14) (v := ?_) rfl (by kernel_rfl) (by kernel_rfl) (by kernel_rfl) (fun _ _ _ h => h) ?_ hHeld ?_
        rotate_left
        focus (intro w hSw; (try dsimp only at hSw); go_simp; (try with_reducible rfl); done)
        go_frame
        refine rconsQ 4 rfl (by kernel_rfl) (fun K hK => ?_)
        go_simp
        refine hK.out _ _ (by first | exact KS.allocd _ hHeld | exact KS.alloc _ hHeld) (fun hHeld2 => ?_)
        clear hK K hHeld
        have hHeld := hHeld2
        clear hHeld2
        (try go_frame)
        refine rconsQ 5 rfl (by kernel_rfl) (fun K hK => ?_)
        go_simp
        (refine (HO1.out _ _ (by first | exact new_cell _ _ _ _ _ rfl | exact new_celld _ _ _ _ _ rfl) (by first | exact new_cell _ _ _ _ _ rfl | exact new_celld _ _ _ _ _ rfl) (by first | exact new_lt _ _ | exact new_ltd _ _)).mono ?_; rintro e w2 ⟨rfl, hb⟩)
        (try dsimp only)
        refine hK.out _ _ (KS.below hb hHeld) (fun hHeld2 => ?_)
        clear hK K hHeld
        have hHeld := hHeld2
        clear hHeld2
        (try go_frame)
        refine rconsQ 9 rfl (by kernel_rfl) (fun K hK => ?_)
        go_simp
        refine (HL.out _).mono ?_; rintro e w2 ⟨rfl, hb⟩
        (try dsimp only)
        refine hK.out _ _ (KS.below hb hHeld) (fun hHeld2 => ?_)
        clear hK K hHeld
        have hHeld := hHeld2
        clear hHeld2
        (try go_frame)
        refine tkyQ 10 (some 16) (v := ?_) rfl (by kernel_rfl) (by kernel_rfl) (by kernel_rfl) (fun _ _ _ h => h) ?_ hHeld ?_
        rotate_left
        focus (intro w hSw; (try dsimp only at hSw); go_simp; (try with_reducible rfl); done)
        go_frame
        refine tkyQ 11 (some 17) (v := ?_) rfl (by kernel_rfl) (by kernel_rfl) (by kernel_rfl) (fun _ _ _ h => h) ?_ hHeld ?_
        rotate_left
        focus (intro w hSw; (try dsimp only at hSw); go_simp; (try with_reducible rfl); done)
        go_frame
        refine tknQ 12 (some 18) rfl (by kernel_rfl) (by kernel_rfl) (by kernel_rfl) (fun _ _ _ h => h) hHeld ?_
        go_frame
        refine tknQ 13 (some 19) rfl (by kernel_rfl) (by kernel_rfl) (by kernel_rfl) (fun _ _ _ h => h) hHeld ?_
        go_frame
        refine tknQ 14 (some 20) rfl (by kernel_rfl) (by kernel_rfl) (by kernel_rfl) (fun _ _ _ h => h) hHeld ?_
        go_frame
        refine tknQ 15 (some 21) rfl (by kernel_rfl) (by kernel_rfl) (by kernel_rfl) (fun _ _ _ h => h) hHeld ?_
        go_frame
        refine tkyQ 16 (some 22) (v := ?_) rfl (by kernel_rfl) (by kernel_rfl) (by kernel_rfl) (fun _ _ _ h => h) ?_ hHeld ?_
        rotate_left
        focus (intro w hSw; (try dsimp only at hSw); go_simp; (try with_reducible rfl); done)
        go_frame
        refine tkyQ 17 (some 23) (v := ?_) rfl (by kernel_rfl) (by kernel_rfl) (by kernel_rfl) (fun _ _ _ h => h) ?_ hHeld ?_
        rotate_left
        focus (intro w hSw; (try dsimp only at hSw); go_simp; (try with_reducible rfl); done)
        go_frame
        refine tknQ 18 (some 24) rfl (by kernel_rfl) (by kernel_rfl) (by kernel_rfl) (fun _ _ _ h => h) hHeld ?_
        go_frame
        refine tknQ 19 (some 25) rfl (by kernel_rfl) (by kernel_rfl) (by kernel_rfl) (fun _ _ _ h => h) hHeld ?_
        go_frame
        refine tknQ 20 (some 26) rfl (by kernel_rfl) (by kernel_rfl) (by kernel_rfl) (fun _ _ _ h => h) hHeld ?_
        go_frame
        refine tknQ 21 (some 27) rfl (by kernel_rfl) (by kernel_rfl) (by kernel_rfl) (fun _ _ _ h => h) hHeld ?_
        go_frame
        refine tknQ 22 (some 28) rfl (by kernel_rfl) (by kernel_rfl) (by kernel_rfl) (fun _ _ _ h => h) hHeld ?_
        go_frame
        refine tkyQ 23 (some 29) (v := ?_) rfl (by kernel_rfl) (by kernel_rfl) (by kernel_rfl) (fun _ _ _ h => h) ?_ hHeld ?_
        rotate_left
        focus (intro w hSw; (try dsimp only at hSw); go_simp; (try with_reducible rfl); done)
        go_frame
        refine tkyQ 24 (some 3) (v := ?_) rfl (by kernel_rfl) (by kernel_rfl) (by kernel_rfl) (fun _ _ _ h => h) ?_ hHeld ?_
        rotate_left
        focus (intro w hSw; (try dsimp only at hSw); go_simp; (try with_reducible rfl); done)
        go_frame
        refine wpAnyH_done (by kernel_rfl) ?_ _
        go_wp2_with fail
        go_meet
        refine ⟨congrArg Value.bool ?_, hHeld⟩
        ((try rw [P4.out]); (try rw [P5.out]); (try rw [Q4.out]); (try simp only [HBL.out]); (first | rfl | (simp; done)))
      · cases bc
        · refine wp_region_held_drew (S := (fun W => W.cell? ⟨w.heap.size, 0, none⟩ = some (.string sc) ∧ W.cell? ⟨w.heap.size, 1, none⟩ = some (.string us) ∧ W.cell? ⟨w.heap.size, 2, none⟩ = some (.string ho) ∧ W.cell? ⟨w.heap.size, 3, none⟩ = some (.string po) ∧ W.cell? ⟨w.heap.size, 4, none⟩ = some (.string pa) ∧ W.cell? ⟨w.heap.size, 5, none⟩ = some (.string qu) ∧ W.cell? ⟨w.heap.size, 6, none⟩ = some (.bool hu) ∧ W.cell? ⟨w.heap.size, 7, none⟩ = some (.bool hq) ∧ w.heap.size < W.heap.size ∧ Below w.heap.size w W)) (by kernel_rfl) (KS.drew ⟨a0, a1, a2, a3, a4, a5, a6, a7, hl, hw⟩) (fun hHeld => ?_)
          refine tkyQ 0 (some 6) (v := ?_) rfl (by kernel_rfl) (by kernel_rfl) (by kernel_rfl) (fun _ _ _ h => h) ?_ hHeld ?_
          rotate_left
          focus (intro w hSw; (try dsimp only at hSw); go_simp; (try with_reducible rfl); done)
          go_frame
          refine tkyQ 1 (some 7) (v := ?_) rfl (by kernel_rfl) (by kernel_rfl) (by kernel_rfl) (fun _ _ _ h => h) ?_ hHeld ?_
          rotate_left
          focus (intro w hSw; (try dsimp only at hSw); go_simp; (try with_reducible rfl); done)
          go_frame
          refine tkyQ 2 (some 8) (v := ?_) rfl (by kernel_rfl) (by kernel_rfl) (by kernel_rfl) (fun _ _ _ h => h) ?_ hHeld ?_
          rotate_left
          focus (intro w hSw; (try dsimp only at hSw); go_simp; (try with_reducible rfl); done)
          go_frame
          refine tkyQ 3 (some 9) (v := ?_) rfl (by kernel_rfl) (by kernel_rfl) (by kernel_rfl) (fun _ _ _ h => h) ?_ hHeld ?_
          rotate_left
          focus (intro w hSw; (try dsimp only at hSw); go_simp; (try with_reducible rfl); done)
          go_frame
          refine tkyQ 6 (some 12) (v := ?_) rfl (by kernel_rfl) (by kernel_rfl) (by kernel_rfl) (fun _ _ _ h => h) ?_ hHeld ?_
          rotate_left
          focus (intro w hSw; (try dsimp only at hSw); go_simp; (try with_reducible rfl); done)
          go_frame
          refine tkyQ 7 (some 13) (v := ?_) rfl (by kernel_rfl) (by kernel_rfl) (by kernel_rfl) (fun _ _ _ h => h) ?_ hHeld ?_
          rotate_left
          focus (intro w hSw; (try dsimp only at hSw); go_simp; (try with_reducible rfl); done)
          go_frame
          refine tkyQ 8 (some 14) (v := ?_) rfl (by kernel_rfl) (by kernel_rfl) (by kernel_rfl) (fun _ _ _ h => h) ?_ hHeld ?_
          rotate_left
          focus (intro w hSw; (try dsimp only at hSw); go_simp; (try with_reducible rfl); done)
          go_frame
          refine rconsQ 4 rfl (by kernel_rfl) (fun K hK => ?_)
          go_simp
          refine hK.out _ _ (by first | exact KS.allocd _ hHeld | exact KS.alloc _ hHeld) (fun hHeld2 => ?_)
          clear hK K hHeld
          have hHeld := hHeld2
          clear hHeld2
          (try go_frame)
          refine rconsQ 5 rfl (by kernel_rfl) (fun K hK => ?_)
          go_simp
          (refine (HO1.out _ _ (by first | exact new_cell _ _ _ _ _ rfl | exact new_celld _ _ _ _ _ rfl) (by first | exact new_cell _ _ _ _ _ rfl | exact new_celld _ _ _ _ _ rfl) (by first | exact new_lt _ _ | exact new_ltd _ _)).mono ?_; rintro e w2 ⟨rfl, hb⟩)
          (try dsimp only)
          refine hK.out _ _ (KS.below hb hHeld) (fun hHeld2 => ?_)
          clear hK K hHeld
          have hHeld := hHeld2
          clear hHeld2
          (try go_frame)
          refine rconsQ 9 rfl (by kernel_rfl) (fun K hK => ?_)
          go_simp
          refine (HL.out _).mono ?_; rintro e w2 ⟨rfl, hb⟩
          (try dsimp only)
          refine hK.out _ _ (KS.below hb hHeld) (fun hHeld2 => ?_)
          clear hK K hHeld
          have hHeld := hHeld2
          clear hHeld2
          (try go_frame)
          refine tkyQ 10 (some 16) (v := ?_) rfl (by kernel_rfl) (by kernel_rfl) (by kernel_rfl) (fun _ _ _ h => h) ?_ hHeld ?_
          rotate_left
          focus (intro w hSw; (try dsimp only at hSw); go_simp; (try with_reducible rfl); done)
          go_frame
          refine tkyQ 11 (some 17) (v := ?_) rfl (by kernel_rfl) (by kernel_rfl) (by kernel_rfl) (fun _ _ _ h => h) ?_ hHeld ?_
          rotate_left
          focus (intro w hSw; (try dsimp only at hSw); go_simp; (try with_reducible rfl); done)
          go_frame
          refine tkyQ 12 (some 18) (v := ?_) rfl (by kernel_rfl) (by kernel_rfl) (by kernel_rfl) (fun _ _ _ h => h) ?_ hHeld ?_
          rotate_left
          focus (intro w hSw; (try dsimp only at hSw); go_simp; (try with_reducible rfl); done)
          go_frame
          refine tkyQ 13 (some 19) (v := ?_) rfl (by kernel_rfl) (by kernel_rfl) (by kernel_rfl) (fun _ _ _ h => h) ?_ hHeld ?_
          rotate_left
          focus (intro w hSw; (try dsimp only at hSw); go_simp; (try with_reducible rfl); done)
          go_frame
          refine rconsQ 14 rfl (by kernel_rfl) (fun K hK => ?_)
          go_simp
          refine (HC.out _).mono ?_; rintro e w2 ⟨rfl, rfl⟩
          (try dsimp only)
          refine hK.out _ _ (hHeld) (fun hHeld2 => ?_)
          clear hK K hHeld
          have hHeld := hHeld2
          clear hHeld2
          (try go_frame)
          refine tkyQ 15 (some 21) (v := ?_) rfl (by kernel_rfl) (by kernel_rfl) (by kernel_rfl) (fun _ _ _ h => h) ?_ hHeld ?_
          rotate_left
          focus (intro w hSw; (try dsimp only at hSw); go_simp; (try with_reducible rfl); done)
          go_frame
          refine tkyQ 16 (some 22) (v := ?_) rfl (by kernel_rfl) (by kernel_rfl) (by kernel_rfl) (fun _ _ _ h => h) ?_ hHeld ?_
          rotate_left
          focus (intro w hSw; (try dsimp only at hSw); go_simp; (try with_reducible rfl); done)
          go_frame
          refine tkyQ 17 (some 23) (v := ?_) rfl (by kernel_rfl) (by kernel_rfl) (by kernel_rfl) (fun _ _ _ h => h) ?_ hHeld ?_
          rotate_left
          focus (intro w hSw; (try dsimp only at hSw); go_simp; (try with_reducible rfl); done)
          go_frame
          refine tkyQ 18 (some 24) (v := ?_) rfl (by kernel_rfl) (by kernel_rfl) (by kernel_rfl) (fun _ _ _ h => h) ?_ hHeld ?_
          rotate_left
          focus (intro w hSw; (try dsimp only at hSw); go_simp; (try with_reducible rfl); done)
          go_frame
          refine tkyQ 19 (some 25) (v := ?_) rfl (by kernel_rfl) (by kernel_rfl) (by kernel_rfl) (fun _ _ _ h => h) ?_ hHeld ?_
          rotate_left
          focus (intro w hSw; (try dsimp only at hSw); go_simp; (try with_reducible rfl); done)
          go_frame
          refine rconsQ 20 rfl (by kernel_rfl) (fun K hK => ?_)
          go_simp
          refine hK.out _ _ (by first | exact KS.allocd _ hHeld | exact KS.alloc _ hHeld) (fun hHeld2 => ?_)
          clear hK K hHeld
          have hHeld := hHeld2
          clear hHeld2
          (try go_frame)
          refine rconsQ 21 rfl (by kernel_rfl) (fun K hK => ?_)
          go_simp
          (refine (HO2.out _ _ (by first | exact new_cell _ _ _ _ _ rfl | exact new_celld _ _ _ _ _ rfl) (by first | exact new_cell _ _ _ _ _ rfl | exact new_celld _ _ _ _ _ rfl) (by first | exact new_cell _ _ _ _ _ rfl | exact new_celld _ _ _ _ _ rfl) (by first | exact new_cell _ _ _ _ _ rfl | exact new_celld _ _ _ _ _ rfl) (by first | exact new_lt _ _ | exact new_ltd _ _)).mono ?_; rintro e w2 ⟨rfl, hb⟩)
          (try dsimp only)
          refine hK.out _ _ (KS.below hb hHeld) (fun hHeld2 => ?_)
          clear hK K hHeld
          have hHeld := hHeld2
          clear hHeld2
          (try go_frame)
          refine rconsQ 22 rfl (by kernel_rfl) (fun K hK => ?_)
          go_simp
          (refine (HM2.out _).mono ?_; rintro e w2 ⟨rfl, hb⟩)
          (try dsimp only)
          refine hK.out _ _ (KS.below hb hHeld) (fun hHeld2 => ?_)
          clear hK K hHeld
          have hHeld := hHeld2
          clear hHeld2
          (try go_frame)
          refine tkyQ 23 (some 29) (v := ?_) rfl (by kernel_rfl) (by kernel_rfl) (by kernel_rfl) (fun _ _ _ h => h) ?_ hHeld ?_
          rotate_left
          focus (intro w hSw; (try dsimp only at hSw); go_simp; (try with_reducible rfl); done)
          go_frame
          refine tkyQ 24 (some 3) (v := ?_) rfl (by kernel_rfl) (by kernel_rfl) (by kernel_rfl) (fun _ _ _ h => h) ?_ hHeld ?_
          rotate_left
          focus (intro w hSw; (try dsimp only at hSw); go_simp; (try with_reducible rfl); done)
          go_frame
          refine wpAnyH_done (by kernel_rfl) ?_ _
          go_wp2_with fail
          go_meet
          refine ⟨congrArg Value.bool ?_, hHeld⟩
          ((try rw [P4.out]); (try rw [P5.out]); (try rw [Q4.out]); (try simp only [HBL.out]); (first | rfl | (simp; done)))
        · refine wp_region_held_drew (S := (fun W => W.cell? ⟨w.heap.size, 0, none⟩ = some (.string sc) ∧ W.cell? ⟨w.heap.size, 1, none⟩ = some (.string us) ∧ W.cell? ⟨w.heap.size, 2, none⟩ = some (.string ho) ∧ W.cell? ⟨w.heap.size, 3, none⟩ = some (.string po) ∧ W.cell? ⟨w.heap.size, 4, none⟩ = some (.string pa) ∧ W.cell? ⟨w.heap.size, 5, none⟩ = some (.string qu) ∧ W.cell? ⟨w.heap.size, 6, none⟩ = some (.bool hu) ∧ W.cell? ⟨w.heap.size, 7, none⟩ = some (.bool hq) ∧ w.heap.size < W.heap.size ∧ Below w.heap.size w W)) (by kernel_rfl) (KS.drew ⟨a0, a1, a2, a3, a4, a5, a6, a7, hl, hw⟩) (fun hHeld => ?_)
          refine tkyQ 0 (some 6) (v := ?_) rfl (by kernel_rfl) (by kernel_rfl) (by kernel_rfl) (fun _ _ _ h => h) ?_ hHeld ?_
          rotate_left
          focus (intro w hSw; (try dsimp only at hSw); go_simp; (try with_reducible rfl); done)
          go_frame
          refine tkyQ 1 (some 7) (v := ?_) rfl (by kernel_rfl) (by kernel_rfl) (by kernel_rfl) (fun _ _ _ h => h) ?_ hHeld ?_
          rotate_left
          focus (intro w hSw; (try dsimp only at hSw); go_simp; (try with_reducible rfl); done)
          go_frame
          refine tkyQ 2 (some 8) (v := ?_) rfl (by kernel_rfl) (by kernel_rfl) (by kernel_rfl) (fun _ _ _ h => h) ?_ hHeld ?_
          rotate_left
          focus (intro w hSw; (try dsimp only at hSw); go_simp; (try with_reducible rfl); done)
          go_frame
          refine tkyQ 3 (some 9) (v := ?_) rfl (by kernel_rfl) (by kernel_rfl) (by kernel_rfl) (fun _ _ _ h => h) ?_ hHeld ?_
          rotate_left
          focus (intro w hSw; (try dsimp only at hSw); go_simp; (try with_reducible rfl); done)
          go_frame
          refine tkyQ 6 (some 12) (v := ?_) rfl (by kernel_rfl) (by kernel_rfl) (by kernel_rfl) (fun _ _ _ h => h) ?_ hHeld ?_
          rotate_left
          focus (intro w hSw; (try dsimp only at hSw); go_simp; (try with_reducible rfl); done)
          go_frame
          refine tkyQ 7 (some 13) (v := ?_) rfl (by kernel_rfl) (by kernel_rfl) (by kernel_rfl) (fun _ _ _ h => h) ?_ hHeld ?_
          rotate_left
          focus (intro w hSw; (try dsimp only at hSw); go_simp; (try with_reducible rfl); done)
          go_frame
          refine tkyQ 8 (some 14) (v := ?_) rfl (by kernel_rfl) (by kernel_rfl) (by kernel_rfl) (fun _ _ _ h => h) ?_ hHeld ?_
          rotate_left
          focus (intro w hSw; (try dsimp only at hSw); go_simp; (try with_reducible rfl); done)
          go_frame
          refine rconsQ 4 rfl (by kernel_rfl) (fun K hK => ?_)
          go_simp
          refine hK.out _ _ (by first | exact KS.allocd _ hHeld | exact KS.alloc _ hHeld) (fun hHeld2 => ?_)
          clear hK K hHeld
          have hHeld := hHeld2
          clear hHeld2
          (try go_frame)
          refine rconsQ 5 rfl (by kernel_rfl) (fun K hK => ?_)
          go_simp
          (refine (HO1.out _ _ (by first | exact new_cell _ _ _ _ _ rfl | exact new_celld _ _ _ _ _ rfl) (by first | exact new_cell _ _ _ _ _ rfl | exact new_celld _ _ _ _ _ rfl) (by first | exact new_lt _ _ | exact new_ltd _ _)).mono ?_; rintro e w2 ⟨rfl, hb⟩)
          (try dsimp only)
          refine hK.out _ _ (KS.below hb hHeld) (fun hHeld2 => ?_)
          clear hK K hHeld
          have hHeld := hHeld2
          clear hHeld2
          (try go_frame)
          refine rconsQ 9 rfl (by kernel_rfl) (fun K hK => ?_)
          go_simp
          refine (HL.out _).mono ?_; rintro e w2 ⟨rfl, hb⟩
          (try dsimp only)
          refine hK.out _ _ (KS.below hb hHeld) (fun hHeld2 => ?_)
          clear hK K hHeld
          have hHeld := hHeld2
          clear hHeld2
          (try go_frame)
          refine tkyQ 10 (some 16) (v := ?_) rfl (by kernel_rfl) (by kernel_rfl) (by kernel_rfl) (fun _ _ _ h => h) ?_ hHeld ?_
          rotate_left
          focus (intro w hSw; (try dsimp only at hSw); go_simp; (try with_reducible rfl); done)
          go_frame
          refine tkyQ 11 (some 17) (v := ?_) rfl (by kernel_rfl) (by kernel_rfl) (by kernel_rfl) (fun _ _ _ h => h) ?_ hHeld ?_
          rotate_left
          focus (intro w hSw; (try dsimp only at hSw); go_simp; (try with_reducible rfl); done)
          go_frame
          refine tkyQ 12 (some 18) (v := ?_) rfl (by kernel_rfl) (by kernel_rfl) (by kernel_rfl) (fun _ _ _ h => h) ?_ hHeld ?_
          rotate_left
          focus (intro w hSw; (try dsimp only at hSw); go_simp; (try with_reducible rfl); done)
          go_frame
          refine tkyQ 13 (some 19) (v := ?_) rfl (by kernel_rfl) (by kernel_rfl) (by kernel_rfl) (fun _ _ _ h => h) ?_ hHeld ?_
          rotate_left
          focus (intro w hSw; (try dsimp only at hSw); go_simp; (try with_reducible rfl); done)
          go_frame
          refine rconsQ 14 rfl (by kernel_rfl) (fun K hK => ?_)
          go_simp
          refine (HC.out _).mono ?_; rintro e w2 ⟨rfl, rfl⟩
          (try dsimp only)
          refine hK.out _ _ (hHeld) (fun hHeld2 => ?_)
          clear hK K hHeld
          have hHeld := hHeld2
          clear hHeld2
          (try go_frame)
          refine tkyQ 15 (some 21) (v := ?_) rfl (by kernel_rfl) (by kernel_rfl) (by kernel_rfl) (fun _ _ _ h => h) ?_ hHeld ?_
          rotate_left
          focus (intro w hSw; (try dsimp only at hSw); go_simp; (try with_reducible rfl); done)
          go_frame
          refine tkyQ 16 (some 22) (v := ?_) rfl (by kernel_rfl) (by kernel_rfl) (by kernel_rfl) (fun _ _ _ h => h) ?_ hHeld ?_
          rotate_left
          focus (intro w hSw; (try dsimp only at hSw); go_simp; (try with_reducible rfl); done)
          go_frame
          refine tkyQ 17 (some 23) (v := ?_) rfl (by kernel_rfl) (by kernel_rfl) (by kernel_rfl) (fun _ _ _ h => h) ?_ hHeld ?_
          rotate_left
          focus (intro w hSw; (try dsimp only at hSw); go_simp; (try with_reducible rfl); done)
          go_frame
          refine tknQ 18 (some 24) rfl (by kernel_rfl) (by kernel_rfl) (by kernel_rfl) (fun _ _ _ h => h) hHeld ?_
          go_frame
          refine tknQ 19 (some 25) rfl (by kernel_rfl) (by kernel_rfl) (by kernel_rfl) (fun _ _ _ h => h) hHeld ?_
          go_frame
          refine tknQ 20 (some 26) rfl (by kernel_rfl) (by kernel_rfl) (by kernel_rfl) (fun _ _ _ h => h) hHeld ?_
          go_frame
          refine tknQ 21 (some 27) rfl (by kernel_rfl) (by kernel_rfl) (by kernel_rfl) (fun _ _ _ h => h) hHeld ?_
          go_frame
          refine tknQ 22 (some 28) rfl (by kernel_rfl) (by kernel_rfl) (by kernel_rfl) (fun _ _ _ h => h) hHeld ?_
          go_frame
          refine tkyQ 23 (some 29) (v := ?_) rfl (by kernel_rfl) (by kernel_rfl) (by kernel_rfl) (fun _ _ _ h => h) ?_ hHeld ?_
          rotate_left
          focus (intro w hSw; (try dsimp only at hSw); go_simp; (try with_reducible rfl); done)
          go_frame
          refine tkyQ 24 (some 3) (v := ?_) rfl (by kernel_rfl) (by kernel_rfl) (by kernel_rfl) (fun _ _ _ h => h) ?_ hHeld ?_
          rotate_left
          focus (intro w hSw; (try dsimp only at hSw); go_simp; (try with_reducible rfl); done)
          go_frame
          refine wpAnyH_done (by kernel_rfl) ?_ _
          go_wp2_with fail
          go_meet
          refine ⟨congrArg Value.bool ?_, hHeld⟩
          ((try rw [P4.out]); (try rw [P5.out]); (try rw [Q4.out]); (try simp only [HBL.out]); (first | rfl | (simp; done)))
  case rest =>
    rename World => wx
    obtain ⟨rfl, hK⟩ := hcut
    obtain ⟨c1, hc1⟩ : ∃ c1, (!sc.data.toList.isEmpty && (match sc.data.toList.head? with | some c => isLet c | none => false) && !bc && b1) = c1 := ⟨_, rfl⟩
    rw [hc1]
    have HR1 := HR.out
    rw [hc1] at HR1
    have HR := Lib.hid HR1
    clear hc1 HR1 HO1 HH1 HO2 HM2 HC
    obtain ⟨a0, a1, a2, a3, a4, a5, a6, a7, hl, hw⟩ := hK
    go_upto_region 2 with fail
    go_cut [4] (fun s4 wy => s4 = .bool (b2 && b3 && b4 && (hu || us.data.toList.isEmpty)) ∧ KS sc us ho po pa qu hu hq w wy)
    case first =>
      cases b2
      · refine wp_region_held_drew (S := (fun W => W.cell? ⟨w.heap.size, 0, none⟩ = some (.string sc) ∧ W.cell? ⟨w.heap.size, 1, none⟩ = some (.string us) ∧ W.cell? ⟨w.heap.size, 2, none⟩ = some (.string ho) ∧ W.cell? ⟨w.heap.size, 3, none⟩ = some (.string po) ∧ W.cell? ⟨w.heap.size, 4, none⟩ = some (.string pa) ∧ W.cell? ⟨w.heap.size, 5, none⟩ = some (.string qu) ∧ W.cell? ⟨w.heap.size, 6, none⟩ = some (.bool hu) ∧ W.cell? ⟨w.heap.size, 7, none⟩ = some (.bool hq) ∧ w.heap.size < W.heap.size ∧ Below w.heap.size w W)) (by kernel_rfl) (KS.drew ⟨a0, a1, a2, a3, a4, a5, a6, a7, hl, hw⟩) (fun hHeld => ?_)
        refine tkyQ 0 (some 30) (v := ?_) rfl (by kernel_rfl) (by kernel_rfl) (by kernel_rfl) (fun _ _ _ h => h) ?_ hHeld ?_
        rotate_left
        focus (intro w hSw; (try dsimp only at hSw); go_simp; (try with_reducible rfl); done)
        go_frame
        refine tkyQ 1 (some 31) (v := ?_) rfl (by kernel_rfl) (by kernel_rfl) (by kernel_rfl) (fun _ _ _ h => h) ?_ hHeld ?_
        rotate_left
        focus (intro w hSw; (try dsimp only at hSw); go_simp; (try with_reducible rfl); done)
        go_frame
        refine rconsQ 2 rfl (by kernel_rfl) (fun K hK => ?_)
        go_simp
        refine hK.out _ _ (by first | exact KS.allocd _ hHeld | exact KS.alloc _ hHeld) (fun hHeld2 => ?_)
        clear hK K hHeld
        have hHeld := hHeld2
        clear hHeld2
        (try go_frame)
        refine rconsQ 3 rfl (by kernel_rfl) (fun K hK => ?_)
        go_simp
        (refine (HO3.out _ _ (by first | exact new_cell _ _ _ _ _ rfl | exact new_celld _ _ _ _ _ rfl) (by first | exact new_cell _ _ _ _ _ rfl | exact new_celld _ _ _ _ _ rfl) (by first | exact new_cell _ _ _ _ _ rfl | exact new_celld _ _ _ _ _ rfl) (by first | exact new_lt _ _ | exact new_ltd _ _)).mono ?_; rintro e w2 ⟨rfl, hb⟩)
        (try dsimp only)
        refine hK.out _ _ (KS.below hb hHeld) (fun hHeld2 => ?_)
        clear hK K hHeld
        have hHeld := hHeld2
        clear hHeld2
        (try go_frame)
        refine rconsQ 4 rfl (by kernel_rfl) (fun K hK => ?_)
        go_simp
        (refine (HM3.out _).mono ?_; rintro e w2 ⟨rfl, hb⟩)
        (try dsimp only)
        refine hK.out _ _ (KS.below hb hHeld) (fun hHeld2 => ?_)
        clear hK K hHeld
        have hHeld := hHeld2
        clear hHeld2
        (try go_frame)
        refine tkyQ 5 (some 35) (v := ?_) rfl (by kernel_rfl) (by kernel_rfl) (by kernel_rfl) (fun _ _ _ h => h) ?_ hHeld ?_
        rotate_left
        focus (intro w hSw; (try dsimp only at hSw); go_simp; (try with_reducible rfl); done)
        go_frame
        refine tknQ 6 (some 36) rfl (by kernel_rfl) (by kernel_rfl) (by kernel_rfl) (fun _ _ _ h => h) hHeld ?_
        go_frame
        refine tknQ 7 (some 37) rfl (by kernel_rfl) (by kernel_rfl) (by kernel_rfl) (fun _ _ _ h => h) hHeld ?_
        go_frame
        refine tknQ 8 (some 38) rfl (by kernel_rfl) (by kernel_rfl) (by kernel_rfl) (fun _ _ _ h => h) hHeld ?_
        go_frame
        refine tknQ 9 (some 39) rfl (by kernel_rfl) (by kernel_rfl) (by kernel_rfl) (fun _ _ _ h => h) hHeld ?_
        go_frame
        refine tknQ 10 (some 40) rfl (by kernel_rfl) (by kernel_rfl) (by kernel_rfl) (fun _ _ _ h => h) hHeld ?_
        go_frame
        refine tkyQ 11 (some 41) (v := ?_) rfl (by kernel_rfl) (by kernel_rfl) (by kernel_rfl) (fun _ _ _ h => h) ?_ hHeld ?_
        rotate_left
        focus (intro w hSw; (try dsimp only at hSw); go_simp; (try with_reducible rfl); done)
        go_frame
        refine tkyQ 12 (some 42) (v := ?_) rfl (by kernel_rfl) (by kernel_rfl) (by kernel_rfl) (fun _ _ _ h => h) ?_ hHeld ?_
        rotate_left
        focus (intro w hSw; (try dsimp only at hSw); go_simp; (try with_reducible rfl); done)
        go_frame
        refine tknQ 13 (some 43) rfl (by kernel_rfl) (by kernel_rfl) (by kernel_rfl) (fun _ _ _ h => h) hHeld ?_
        go_frame
        refine tknQ 14 (some 44) rfl (by kernel_rfl) (by kernel_rfl) (by kernel_rfl) (fun _ _ _ h => h) hHeld ?_
        go_frame
        refine tknQ 15 (some 45) rfl (by kernel_rfl) (by kernel_rfl) (by kernel_rfl) (fun _ _ _ h => h) hHeld ?_
        go_frame
        refine tknQ 16 (some 46) rfl (by kernel_rfl) (by kernel_rfl) (by kernel_rfl) (fun _ _ _ h => h) hHeld ?_
        go_frame
        refine tkyQ 17 (some 47) (v := ?_) rfl (by kernel_rfl) (by kernel_rfl) (by kernel_rfl) (fun _ _ _ h => h) ?_ hHeld ?_
        rotate_left
        focus (intro w hSw; (try dsimp only at hSw); go_simp; (try with_reducible rfl); done)
        go_frame
        refine tkyQ 18 (some 48) (v := ?_) rfl (by kernel_rfl) (by kernel_rfl) (by kernel_rfl) (fun _ _ _ h => h) ?_ hHeld ?_
        rotate_left
        focus (intro w hSw; (try dsimp only at hSw); go_simp; (try with_reducible rfl); done)
        go_frame
        refine tknQ 19 (some 49) rfl (by kernel_rfl) (by kernel_rfl) (by kernel_rfl) (fun _ _ _ h => h) hHeld ?_
        go_frame
        refine tknQ 20 (some 50) rfl (by kernel_rfl) (by kernel_rfl) (by kernel_rfl) (fun _ _ _ h => h) hHeld ?_
        go_frame
        refine tknQ 21 (some 51) rfl (by kernel_rfl) (by kernel_rfl) (by kernel_rfl) (fun _ _ _ h => h) hHeld ?_
        go_frame
        refine tknQ 22 (some 52) rfl (by kernel_rfl) (by kernel_rfl) (by kernel_rfl) (fun _ _ _ h => h) hHeld ?_
        go_frame
        refine tknQ 23 (some 53) rfl (by kernel_rfl) (by kernel_rfl) (by kernel_rfl) (fun _ _ _ h => h) hHeld ?_
        go_frame
        refine tknQ 24 (some 54) rfl (by kernel_rfl) (by kernel_rfl) (by kernel_rfl) (fun _ _ _ h => h) hHeld ?_
        go_frame
        refine tknQ 25 (some 55) rfl (by kernel_rfl) (by kernel_rfl) (by kernel_rfl) (fun _ _ _ h => h) hHeld ?_
        go_frame
        refine tkyQ 26 (some 56) (v := ?_) rfl (by kernel_rfl) (by kernel_rfl) (by kernel_rfl) (fun _ _ _ h => h) ?_ hHeld ?_
        rotate_left
        focus (intro w hSw; (try dsimp only at hSw); go_simp; (try with_reducible rfl); done)
        go_frame
        refine tkyQ 27 (some 4) (v := ?_) rfl (by kernel_rfl) (by kernel_rfl) (by kernel_rfl) (fun _ _ _ h => h) ?_ hHeld ?_
        rotate_left
        focus (intro w hSw; (try dsimp only at hSw); go_simp; (try with_reducible rfl); done)
        go_frame
        refine wpAnyH_done (by kernel_rfl) ?_ _
        go_wp2_with fail
        go_meet
        refine ⟨congrArg Value.bool ?_, hHeld⟩
        ((try rw [P4.out]); (try rw [P5.out]); (try rw [Q4.out]); (try simp only [HBL.out]); (first | rfl | (simp; done)))
      · cases b3
        · refine wp_region_held_drew (S := (fun W => W.cell? ⟨w.heap.size, 0, none⟩ = some (.string sc) ∧ W.cell? ⟨w.heap.size, 1, none⟩ = some (.string us) ∧ W.cell? ⟨w.heap.size, 2, none⟩ = some (.string ho) ∧ W.cell? ⟨w.heap.size, 3, none⟩ = some (.string po) ∧ W.cell? ⟨w.heap.size, 4, none⟩ = some (.string pa) ∧ W.cell? ⟨w.heap.size, 5, none⟩ = some (.string qu) ∧ W.cell? ⟨w.heap.size, 6, none⟩ = some (.bool hu) ∧ W.cell? ⟨w.heap.size, 7, none⟩ = some (.bool hq) ∧ w.heap.size < W.heap.size ∧ Below w.heap.size w W)) (by kernel_rfl) (KS.drew ⟨a0, a1, a2, a3, a4, a5, a6, a7, hl, hw⟩) (fun hHeld => ?_)
          refine tkyQ 0 (some 30) (v := ?_) rfl (by kernel_rfl) (by kernel_rfl) (by kernel_rfl) (fun _ _ _ h => h) ?_ hHeld ?_
          rotate_left
          focus (intro w hSw; (try dsimp only at hSw); go_simp; (try with_reducible rfl); done)
          go_frame
          refine tkyQ 1 (some 31) (v := ?_) rfl (by kernel_rfl) (by kernel_rfl) (by kernel_rfl) (fun _ _ _ h => h) ?_ hHeld ?_
          rotate_left
          focus (intro w hSw; (try dsimp only at hSw); go_simp; (try with_reducible rfl); done)
          go_frame
          refine rconsQ 2 rfl (by kernel_rfl) (fun K hK => ?_)
          go_simp
          refine hK.out _ _ (by first | exact KS.allocd _ hHeld | exact KS.alloc _ hHeld) (fun hHeld2 => ?_)
          clear hK K hHeld
          have hHeld := hHeld2
          clear hHeld2
          (try go_frame)
          refine rconsQ 3 rfl (by kernel_rfl) (fun K hK => ?_)
          go_simp
          (refine (HO3.out _ _ (by first | exact new_cell _ _ _ _ _ rfl | exact new_celld _ _ _ _ _ rfl) (by first | exact new_cell _ _ _ _ _ rfl | exact new_celld _ _ _ _ _ rfl) (by first | exact new_cell _ _ _ _ _ rfl | exact new_celld _ _ _ _ _ rfl) (by first | exact new_lt _ _ | exact new_ltd _ _)).mono ?_; rintro e w2 ⟨rfl, hb⟩)
          (try dsimp only)
          refine hK.out _ _ (KS.below hb hHeld) (fun hHeld2 => ?_)
          clear hK K hHeld
          have hHeld := hHeld2
          clear hHeld2
          (try go_frame)
          refine rconsQ 4 rfl (by kernel_rfl) (fun K hK => ?_)
          go_simp
          (refine (HM3.out _).mono ?_; rintro e w2 ⟨rfl, hb⟩)
          (try dsimp only)
          refine hK.out _ _ (KS.below hb hHeld) (fun hHeld2 => ?_)
          clear hK K hHeld
          have hHeld := hHeld2
          clear hHeld2
          (try go_frame)
          refine tkyQ 5 (some 35) (v := ?_) rfl (by kernel_rfl) (by kernel_rfl) (by kernel_rfl) (fun _ _ _ h => h) ?_ hHeld ?_
          rotate_left
          focus (intro w hSw; (try dsimp only at hSw); go_simp; (try with_reducible rfl); done)
          go_frame
          refine tkyQ 6 (some 36) (v := ?_) rfl (by kernel_rfl) (by kernel_rfl) (by kernel_rfl) (fun _ _ _ h => h) ?_ hHeld ?_
          rotate_left
          focus (intro w hSw; (try dsimp only at hSw); go_simp; (try with_reducible rfl); done)
          go_frame
          refine tkyQ 7 (some 37) (v := ?_) rfl (by kernel_rfl) (by kernel_rfl) (by kernel_rfl) (fun _ _ _ h => h) ?_ hHeld ?_
          rotate_left
          focus (intro w hSw; (try dsimp only at hSw); go_simp; (try with_reducible rfl); done)
          go_frame
          refine rconsQ 8 rfl (by kernel_rfl) (fun K hK => ?_)
          go_simp
          refine hK.out _ _ (by first | exact KS.allocd _ hHeld | exact KS.alloc _ hHeld) (fun hHeld2 => ?_)
          clear hK K hHeld
          have hHeld := hHeld2
          clear hHeld2
          (try go_frame)
          refine rconsQ 9 rfl (by kernel_rfl) (fun K hK => ?_)
          go_simp
          (refine (HO4.out _ _ (by first | exact new_cell _ _ _ _ _ rfl | exact new_celld _ _ _ _ _ rfl) (by first | exact new_cell _ _ _ _ _ rfl | exact new_celld _ _ _ _ _ rfl) (by first | exact new_lt _ _ | exact new_ltd _ _)).mono ?_; rintro e w2 ⟨rfl, hb⟩)
          (try dsimp only)
          refine hK.out _ _ (KS.below hb hHeld) (fun hHeld2 => ?_)
          clear hK K hHeld
          have hHeld := hHeld2
          clear hHeld2
          (try go_frame)
          refine rconsQ 10 rfl (by kernel_rfl) (fun K hK => ?_)
          go_simp
          (refine (HM4.out _).mono ?_; rintro e w2 ⟨rfl, hb⟩)
          (try dsimp only)
          refine hK.out _ _ (KS.below hb hHeld) (fun hHeld2 => ?_)
          clear hK K hHeld
          have hHeld := hHeld2
          clear hHeld2
          (try go_frame)
          refine tkyQ 11 (some 41) (v := ?_) rfl (by kernel_rfl) (by kernel_rfl) (by kernel_rfl) (fun _ _ _ h => h) ?_ hHeld ?_
          rotate_left
          focus (intro w hSw; (try dsimp only at hSw); go_simp; (try with_reducible rfl); done)
          go_frame
          refine tkyQ 12 (some 42) (v := ?_) rfl (by kernel_rfl) (by kernel_rfl) (by kernel_rfl) (fun _ _ _ h => h) ?_ hHeld ?_
          rotate_left
          focus (intro w hSw; (try dsimp only at hSw); go_simp; (try with_reducible rfl); done)
          go_frame
          refine tknQ 13 (some 43) rfl (by kernel_rfl) (by kernel_rfl) (by kernel_rfl) (fun _ _ _ h => h) hHeld ?_
          go_frame
          refine tknQ 14 (some 44) rfl (by kernel_rfl) (by kernel_rfl) (by kernel_rfl) (fun _ _ _ h => h) hHeld ?_
          go_frame
          refine tknQ 15 (some 45) rfl (by kernel_rfl) (by kernel_rfl) (by kernel_rfl) (fun _ _ _ h => h) hHeld ?_
          go_frame
          refine tknQ 16 (some 46) rfl (by kernel_rfl) (by kernel_rfl) (by kernel_rfl) (fun _ _ _ h => h) hHeld ?_
          go_frame
          refine tkyQ 17 (some 47) (v := ?_) rfl (by kernel_rfl) (by kernel_rfl) (by kernel_rfl) (fun _ _ _ h => h) ?_ hHeld ?_
          rotate_left
          focus (intro w hSw; (try dsimp only at hSw); go_simp; (try with_reducible rfl); done)
          go_frame
          refine tkyQ 18 (some 48) (v := ?_) rfl (by kernel_rfl) (by kernel_rfl) (by kernel_rfl) (fun _ _ _ h => h) ?_ hHeld ?_
          rotate_left
          focus (intro w hSw; (try dsimp only at hSw); go_simp; (try with_reducible rfl); done)
          go_frame
          refine tknQ 19 (some 49) rfl (by kernel_rfl) (by kernel_rfl) (by kernel_rfl) (fun _ _ _ h => h) hHeld ?_
          go_frame
          refine tknQ 20 (some 50) rfl (by kernel_rfl) (by kernel_rfl) (by kernel_rfl) (fun _ _ _ h => h) hHeld ?_
          go_frame
          refine tknQ 21 (some 51) rfl (by kernel_rfl) (by kernel_rfl) (by kernel_rfl) (fun _ _ _ h => h) hHeld ?_
          go_frame
          refine tknQ 22 (some 52) rfl (by kernel_rfl) (by kernel_rfl) (by kernel_rfl) (fun _ _ _ h => h) hHeld ?_
          go_frame
          refine tknQ 23 (some 53) rfl (by kernel_rfl) (by kernel_rfl) (by kernel_rfl) (fun _ _ _ h => h) hHeld ?_
          go_frame
          refine tknQ 24 (some 54) rfl (by kernel_rfl) (by kernel_rfl) (by kernel_rfl) (fun _ _ _ h => h) hHeld ?_
          go_frame
          refine tknQ 25 (some 55) rfl (by kernel_rfl) (by kernel_rfl) (by kernel_rfl) (fun _ _ _ h => h) hHeld ?_
          go_frame
          refine tkyQ 26 (some 56) (v := ?_) rfl (by kernel_rfl) (by kernel_rfl) (by kernel_rfl) (fun _ _ _ h => h) ?_ hHeld ?_
          rotate_left
          focus (intro w hSw; (try dsimp only at hSw); go_simp; (try with_reducible rfl); done)
          go_frame
          refine tkyQ 27 (some 4) (v := ?_) rfl (by kernel_rfl) (by kernel_rfl) (by kernel_rfl) (fun _ _ _ h => h) ?_ hHeld ?_
          rotate_left
          focus (intro w hSw; (try dsimp only at hSw); go_simp; (try with_reducible rfl); done)
          go_frame
          refine wpAnyH_done (by kernel_rfl) ?_ _
          go_wp2_with fail
          go_meet
          refine ⟨congrArg Value.bool ?_, hHeld⟩
          ((try rw [P4.out]); (try rw [P5.out]); (try rw [Q4.out]); (try simp only [HBL.out]); (first | rfl | (simp; done)))
        · rcases HP4.out with ⟨rfl, t1, t2⟩ | ⟨rfl, t1, t2⟩
          · cases hu
            · rcases first_cases us with ⟨p1, p2, p3, p4⟩ | ⟨p1, p2, p3, p4, p5⟩
              · have P4 := Lib.hid p4
                clear p4
                refine wp_region_held_drew (S := (fun W => W.cell? ⟨w.heap.size, 0, none⟩ = some (.string sc) ∧ W.cell? ⟨w.heap.size, 1, none⟩ = some (.string us) ∧ W.cell? ⟨w.heap.size, 2, none⟩ = some (.string ho) ∧ W.cell? ⟨w.heap.size, 3, none⟩ = some (.string po) ∧ W.cell? ⟨w.heap.size, 4, none⟩ = some (.string pa) ∧ W.cell? ⟨w.heap.size, 5, none⟩ = some (.string qu) ∧ W.cell? ⟨w.heap.size, 6, none⟩ = some (.bool false) ∧ W.cell? ⟨w.heap.size, 7, none⟩ = some (.bool hq) ∧ w.heap.size < W.heap.size ∧ Below w.heap.size w W)) (by kernel_rfl) (KS.drew ⟨a0, a1, a2, a3, a4, a5, a6, a7, hl, hw⟩) (fun hHeld => ?_)
                refine tkyQ 0 (some 30) (v := ?_) rfl (by kernel_rfl) (by kernel_rfl) (by kernel_rfl) (fun _ _ _ h => h) ?_ hHeld ?_
                rotate_left
                focus (intro w hSw; (try dsimp only at hSw); go_simp; (try with_reducible rfl); done)
                go_frame
                refine tkyQ 1 (some 31) (v := ?_) rfl (by kernel_rfl) (by kernel_rfl) (by kernel_rfl) (fun _ _ _ h => h) ?_ hHeld ?_
                rotate_left
                focus (intro w hSw; (try dsimp only at hSw); go_simp; (try with_reducible rfl); done)
                go_frame
                refine rconsQ 2 rfl (by kernel_rfl) (fun K hK => ?_)
                go_simp
                refine hK.out _ _ (by first | exact KS.allocd _ hHeld | exact KS.alloc _ hHeld) (fun hHeld2 => ?_)
                clear hK K hHeld
                have hHeld := hHeld2
                clear hHeld2
                (try go_frame)
                refine rconsQ 3 rfl (by kernel_rfl) (fun K hK => ?_)
                go_simp
                (refine (HO3.out _ _ (by first | exact new_cell _ _ _ _ _ rfl | exact new_celld _ _ _ _ _ rfl) (by first | exact new_cell _ _ _ _ _ rfl | exact new_celld _ _ _ _ _ rfl) (by first | exact new_cell _ _ _ _ _ rfl | exact new_celld _ _ _ _ _ rfl) (by first | exact new_lt _ _ | exact new_ltd _ _)).mono ?_; rintro e w2 ⟨rfl, hb⟩)
                (try dsimp only)
                refine hK.out _ _ (KS.below hb hHeld) (fun hHeld2 => ?_)
                clear hK K hHeld
                have hHeld := hHeld2
                clear hHeld2
                (try go_frame)
                refine rconsQ 4 rfl (by kernel_rfl) (fun K hK => ?_)
                go_simp
                (refine (HM3.out _).mono ?_; rintro e w2 ⟨rfl, hb⟩)
                (try dsimp only)
                refine hK.out _ _ (KS.below hb hHeld) (fun hHeld2 => ?_)
                clear hK K hHeld
                have hHeld := hHeld2
                clear hHeld2
                (try go_frame)
                refine tkyQ 5 (some 35) (v := ?_) rfl (by kernel_rfl) (by kernel_rfl) (by kernel_rfl) (fun _ _ _ h => h) ?_ hHeld ?_
                rotate_left
                focus (intro w hSw; (try dsimp only at hSw); go_simp; (try with_reducible rfl); done)
                go_frame
                refine tkyQ 6 (some 36) (v := ?_) rfl (by kernel_rfl) (by kernel_rfl) (by kernel_rfl) (fun _ _ _ h => h) ?_ hHeld ?_
                rotate_left
                focus (intro w hSw; (try dsimp only at hSw); go_simp; (try with_reducible rfl); done)
                go_frame
                refine tkyQ 7 (some 37) (v := ?_) rfl (by kernel_rfl) (by kernel_rfl) (by kernel_rfl) (fun _ _ _ h => h) ?_ hHeld ?_
                rotate_left
                focus (intro w hSw; (try dsimp only at hSw); go_simp; (try with_reducible rfl); done)
                go_frame
                refine rconsQ 8 rfl (by kernel_rfl) (fun K hK => ?_)
                go_simp
                refine hK.out _ _ (by first | exact KS.allocd _ hHeld | exact KS.alloc _ hHeld) (fun hHeld2 => ?_)
                clear hK K hHeld
                have hHeld := hHeld2
                clear hHeld2
                (try go_frame)
                refine rconsQ 9 rfl (by kernel_rfl) (fun K hK => ?_)
                go_simp
                (refine (HO4.out _ _ (by first | exact new_cell _ _ _ _ _ rfl | exact new_celld _ _ _ _ _ rfl) (by first | exact new_cell _ _ _ _ _ rfl | exact new_celld _ _ _ _ _ rfl) (by first | exact new_lt _ _ | exact new_ltd _ _)).mono ?_; rintro e w2 ⟨rfl, hb⟩)
                (try dsimp only)
                refine hK.out _ _ (KS.below hb hHeld) (fun hHeld2 => ?_)
                clear hK K hHeld
                have hHeld := hHeld2
                clear hHeld2
                (try go_frame)
                refine rconsQ 10 rfl (by kernel_rfl) (fun K hK => ?_)
                go_simp
                (refine (HM4.out _).mono ?_; rintro e w2 ⟨rfl, hb⟩)
                (try dsimp only)
                refine hK.out _ _ (KS.below hb hHeld) (fun hHeld2 => ?_)
                clear hK K hHeld
                have hHeld := hHeld2
                clear hHeld2
                (try go_frame)
                refine tkyQ 11 (some 41) (v := ?_) rfl (by kernel_rfl) (by kernel_rfl) (by kernel_rfl) (fun _ _ _ h => h) ?_ hHeld ?_
                rotate_left
                focus (intro w hSw; (try dsimp only at hSw); go_simp; (try with_reducible rfl); done)
                go_frame
                refine tkyQ 12 (some 42) (v := ?_) rfl (by kernel_rfl) (by kernel_rfl) (by kernel_rfl) (fun _ _ _ h => h) ?_ hHeld ?_
                rotate_left
                focus (intro w hSw; (try dsimp only at hSw); go_simp; (try with_reducible rfl); done)
                go_frame
                refine tkyQ 13 (some 43) (v := ?_) rfl (by kernel_rfl) (by kernel_rfl) (by kernel_rfl) (fun _ _ _ h => h) ?_ hHeld ?_
                rotate_left
                focus (intro w hSw; (try dsimp only at hSw); go_simp; (try with_reducible rfl); done)
                go_frame
                refine tkyQ 14 (some 44) (v := ?_) rfl (by kernel_rfl) (by kernel_rfl) (by kernel_rfl) (fun _ _ _ h => h) ?_ hHeld ?_
                rotate_left
                focus (intro w hSw; (try dsimp only at hSw); go_simp; (try with_reducible rfl); done)
                go_frame
                refine rconsQ 15 rfl (by kernel_rfl) (fun K hK => ?_)
                go_simp
                (refine (HT.out _).mono ?_; rintro e w2 ⟨rfl, hb⟩)
                (try dsimp only)
                refine hK.out _ _ (KS.below hb hHeld) (fun hHeld2 => ?_)
                clear hK K hHeld
                have hHeld := hHeld2
                clear hHeld2
                (try go_frame)
                refine tkyQ 16 (some 46) (v := ?_) rfl (by kernel_rfl) (by kernel_rfl) (by kernel_rfl) (fun _ _ _ h => h) ?_ hHeld ?_
                rotate_left
                focus (intro w hSw; (try dsimp only at hSw); go_simp; (try with_reducible rfl); done)
                go_frame
                refine tkyQ 17 (some 47) (v := ?_) rfl (by kernel_rfl) (by kernel_rfl) (by kernel_rfl) (fun _ _ _ h => h) ?_ hHeld ?_
                rotate_left
                focus (intro w hSw; (try dsimp only at hSw); go_simp; (try with_reducible rfl); done)
                go_frame
                refine tkyQ 18 (some 48) (v := ?_) rfl (by kernel_rfl) (by kernel_rfl) (by kernel_rfl) (fun _ _ _ h => h) ?_ hHeld ?_
                rotate_left
                focus (intro w hSw; (try dsimp only at hSw); go_simp; (try with_reducible rfl); done)
                go_frame
                refine tkyQ 19 (some 49) (v := ?_) rfl (by kernel_rfl) (by kernel_rfl) (by kernel_rfl) (fun _ _ _ h => h) ?_ hHeld ?_
                rotate_left
                focus (intro w hSw; (try dsimp only at hSw); go_simp; (try with_reducible rfl); done)
                go_frame
                refine tkyQ 20 (some 50) (v := ?_) rfl (by kernel_rfl) (by kernel_rfl) (by kernel_rfl) (fun _ _ _ h => h) ?_ hHeld ?_
                rotate_left
                focus (intro w hSw; (try dsimp only at hSw); go_simp; (try with_reducible rfl); done)
                go_frame
                refine tkyQ 21 (some 51) (v := ?_) rfl (by kernel_rfl) (by kernel_rfl) (by kernel_rfl) (fun _ _ _ h => h) ?_ hHeld ?_
                rotate_left
                focus (intro w hSw; (try dsimp only at hSw); go_simp; (try with_reducible rfl); done)
                go_frame
                refine tkyQ 22 (some 52) (v := ?_) rfl (by kernel_rfl) (by kernel_rfl) (by kernel_rfl) (fun _ _ _ h => h) ?_ hHeld ?_
                rotate_left
                focus (intro w hSw; (try dsimp only at hSw); go_simp; (try with_reducible rfl); done)
                go_frame
                refine tkyQ 23 (some 53) (v := ?_) rfl (by kernel_rfl) (by kernel_rfl) (by kernel_rfl) (fun _ _ _ h => h) ?_ hHeld ?_
                rotate_left
                focus (intro w hSw; (try dsimp only at hSw); go_simp; (try with_reducible rfl); done)
                go_frame
                refine tkyQ 24 (some 54) (v := ?_) rfl (by kernel_rfl) (by kernel_rfl) (by kernel_rfl) (fun _ _ _ h => h) ?_ hHeld ?_
                rotate_left
                focus (intro w hSw; (try dsimp only at hSw); go_simp; (try with_reducible rfl); done)
                go_frame
                refine tkyQ 25 (some 55) (v := ?_) rfl (by kernel_rfl) (by kernel_rfl) (by kernel_rfl) (fun _ _ _ h => h) ?_ hHeld ?_
                rotate_left
                focus (intro w hSw; (try dsimp only at hSw); go_simp; (try with_reducible rfl); done)
                go_frame
                refine tkyQ 26 (some 56) (v := ?_) rfl (by kernel_rfl) (by kernel_rfl) (by kernel_rfl) (fun _ _ _ h => h) ?_ hHeld ?_
                rotate_left
                focus (intro w hSw; (try dsimp only at hSw); go_simp; (try with_reducible rfl); done)
                go_frame
                refine tkyQ 27 (some 4) (v := ?_) rfl (by kernel_rfl) (by kernel_rfl) (by kernel_rfl) (fun _ _ _ h => h) ?_ hHeld ?_
                rotate_left
                focus (intro w hSw; (try dsimp only at hSw); go_simp; (try with_reducible rfl); done)
                go_frame
                refine wpAnyH_done (by kernel_rfl) ?_ _
                go_wp2_with fail
                go_meet
                refine ⟨congrArg Value.bool ?_, hHeld⟩
                ((try rw [P4.out]); (try rw [P5.out]); (try rw [Q4.out]); (try simp only [HBL.out]); (first | rfl | (simp; done)))
              · have P4 := Lib.hid p4
                clear p4 p5
                refine wp_region_held_drew (S := (fun W => W.cell? ⟨w.heap.size, 0, none⟩ = some (.string sc) ∧ W.cell? ⟨w.heap.size, 1, none⟩ = some (.string us) ∧ W.cell? ⟨w.heap.size, 2, none⟩ = some (.string ho) ∧ W.cell? ⟨w.heap.size, 3, none⟩ = some (.string po) ∧ W.cell? ⟨w.heap.size, 4, none⟩ = some (.string pa) ∧ W.cell? ⟨w.heap.size, 5, none⟩ = some (.string qu) ∧ W.cell? ⟨w.heap.size, 6, none⟩ = some (.bool false) ∧ W.cell? ⟨w.heap.size, 7, none⟩ = some (.bool hq) ∧ w.heap.size < W.heap.size ∧ Below w.heap.size w W)) (by kernel_rfl) (KS.drew ⟨a0, a1, a2, a3, a4, a5, a6, a7, hl, hw⟩) (fun hHeld => ?_)
                refine tkyQ 0 (some 30) (v := ?_) rfl (by kernel_rfl) (by kernel_rfl) (by kernel_rfl) (fun _ _ _ h => h) ?_ hHeld ?_
                rotate_left
                focus (intro w hSw; (try dsimp only at hSw); go_simp; (try with_reducible rfl); done)
                go_frame
                refine tkyQ 1 (some 31) (v := ?_) rfl (by kernel_rfl) (by kernel_rfl) (by kernel_rfl) (fun _ _ _ h => h) ?_ hHeld ?_
                rotate_left
                focus (intro w hSw; (try dsimp only at hSw); go_simp; (try with_reducible rfl); done)
                go_frame
                refine rconsQ 2 rfl (by kernel_rfl) (fun K hK => ?_)
                go_simp
                refine hK.out _ _ (by first | exact KS.allocd _ hHeld | exact KS.alloc _ hHeld) (fun hHeld2 => ?_)
                clear hK K hHeld
                have hHeld := hHeld2
                clear hHeld2
                (try go_frame)
                refine rconsQ 3 rfl (by kernel_rfl) (fun K hK => ?_)
                go_simp
                (refine (HO3.out _ _ (by first | exact new_cell _ _ _ _ _ rfl | exact new_celld _ _ _ _ _ rfl) (by first | exact new_cell _ _ _ _ _ rfl | exact new_celld _ _ _ _ _ rfl) (by first | exact new_cell _ _ _ _ _ rfl | exact new_celld _ _ _ _ _ rfl) (by first | exact new_lt _ _ | exact new_ltd _ _)).mono ?_; rintro e w2 ⟨rfl, hb⟩)
                (try dsimp only)
                refine hK.out _ _ (KS.below hb hHeld) (fun hHeld2 => ?_)
                clear hK K hHeld
                have hHeld := hHeld2
                clear hHeld2
                (try go_frame)
                refine rconsQ 4 rfl (by kernel_rfl) (fun K hK => ?_)
                go_simp
                (refine (HM3.out _).mono ?_; rintro e w2 ⟨rfl, hb⟩)
                (try dsimp only)
                refine hK.out _ _ (KS.below hb hHeld) (fun hHeld2 => ?_)
                clear hK K hHeld
                have hHeld := hHeld2
                clear hHeld2
                (try go_frame)
                refine tkyQ 5 (some 35) (v := ?_) rfl (by kernel_rfl) (by kernel_rfl) (by kernel_rfl) (fun _ _ _ h => h) ?_ hHeld ?_
                rotate_left
                focus (intro w hSw; (try dsimp only at hSw); go_simp; (try with_reducible rfl); done)
                go_frame
                refine tkyQ 6 (some 36) (v := ?_) rfl (by kernel_rfl) (by kernel_rfl) (by kernel_rfl) (fun _ _ _ h => h) ?_ hHeld ?_
                rotate_left
                focus (intro w hSw; (try dsimp only at hSw); go_simp; (try with_reducible rfl); done)
                go_frame
                refine tkyQ 7 (some 37) (v := ?_) rfl (by kernel_rfl) (by kernel_rfl) (by kernel_rfl) (fun _ _ _ h => h) ?_ hHeld ?_
                rotate_left
                focus (intro w hSw; (try dsimp only at hSw); go_simp; (try with_reducible rfl); done)
                go_frame
                refine rconsQ 8 rfl (by kernel_rfl) (fun K hK => ?_)
                go_simp
                refine hK.out _ _ (by first | exact KS.allocd _ hHeld | exact KS.alloc _ hHeld) (fun hHeld2 => ?_)
                clear hK K hHeld
                have hHeld := hHeld2
                clear hHeld2
                (try go_frame)
                refine rconsQ 9 rfl (by kernel_rfl) (fun K hK => ?_)
                go_simp
                (refine (HO4.out _ _ (by first | exact new_cell _ _ _ _ _ rfl | exact new_celld _ _ _ _ _ rfl) (by first | exact new_cell _ _ _ _ _ rfl | exact new_celld _ _ _ _ _ rfl) (by first | exact new_lt _ _ | exact new_ltd _ _)).mono ?_; rintro e w2 ⟨rfl, hb⟩)
                (try dsimp only)
                refine hK.out _ _ (KS.below hb hHeld) (fun hHeld2 => ?_)
                clear hK K hHeld
                have hHeld := hHeld2
                clear hHeld2
                (try go_frame)
                refine rconsQ 10 rfl (by kernel_rfl) (fun K hK => ?_)
                go_simp
                (refine (HM4.out _).mono ?_; rintro e w2 ⟨rfl, hb⟩)
                (try dsimp only)
                refine hK.out _ _ (KS.below hb hHeld) (fun hHeld2 => ?_)
                clear hK K hHeld
                have hHeld := hHeld2
                clear hHeld2
                (try go_frame)
                refine tkyQ 11 (some 41) (v := ?_) rfl (by kernel_rfl) (by kernel_rfl) (by kernel_rfl) (fun _ _ _ h => h) ?_ hHeld ?_
                rotate_left
                focus (intro w hSw; (try dsimp only at hSw); go_simp; (try with_reducible rfl); done)
                go_frame
                refine tkyQ 12 (some 42) (v := ?_) rfl (by kernel_rfl) (by kernel_rfl) (by kernel_rfl) (fun _ _ _ h => h) ?_ hHeld ?_
                rotate_left
                focus (intro w hSw; (try dsimp only at hSw); go_simp; (try with_reducible rfl); done)
                go_frame
                refine tkyQ 13 (some 43) (v := ?_) rfl (by kernel_rfl) (by kernel_rfl) (by kernel_rfl) (fun _ _ _ h => h) ?_ hHeld ?_
                rotate_left
                focus (intro w hSw; (try dsimp only at hSw); go_simp; (try with_reducible rfl); done)
                go_frame
                refine tkyQ 14 (some 44) (v := ?_) rfl (by kernel_rfl) (by kernel_rfl) (by kernel_rfl) (fun _ _ _ h => h) ?_ hHeld ?_
                rotate_left
                focus (intro w hSw; (try dsimp only at hSw); go_simp; (try with_reducible rfl); done)
                go_frame
                refine rconsQ 15 rfl (by kernel_rfl) (fun K hK => ?_)
                go_simp
                (refine (HT.out _).mono ?_; rintro e w2 ⟨rfl, hb⟩)
                (try dsimp only)
                refine hK.out _ _ (KS.below hb hHeld) (fun hHeld2 => ?_)
                clear hK K hHeld
                have hHeld := hHeld2
                clear hHeld2
                (try go_frame)
                refine tkyQ 16 (some 46) (v := ?_) rfl (by kernel_rfl) (by kernel_rfl) (by kernel_rfl) (fun _ _ _ h => h) ?_ hHeld ?_
                rotate_left
                focus (intro w hSw; (try dsimp only at hSw); go_simp; (try with_reducible rfl); done)
                go_frame
                refine tkyQ 17 (some 47) (v := ?_) rfl (by kernel_rfl) (by kernel_rfl) (by kernel_rfl) (fun _ _ _ h => h) ?_ hHeld ?_
                rotate_left
                focus (intro w hSw; (try dsimp only at hSw); go_simp; (try with_reducible rfl); done)
                go_frame
                refine tkyQ 18 (some 48) (v := ?_) rfl (by kernel_rfl) (by kernel_rfl) (by kernel_rfl) (fun _ _ _ h => h) ?_ hHeld ?_
                rotate_left
                focus (intro w hSw; (try dsimp only at hSw); go_simp; (try with_reducible rfl); done)
                go_frame
                refine tkyQ 19 (some 49) (v := ?_) rfl (by kernel_rfl) (by kernel_rfl) (by kernel_rfl) (fun _ _ _ h => h) ?_ hHeld ?_
                rotate_left
                focus (intro w hSw; (try dsimp only at hSw); go_simp; (try with_reducible rfl); done)
                go_frame
                refine tkyQ 20 (some 50) (v := ?_) rfl (by kernel_rfl) (by kernel_rfl) (by kernel_rfl) (fun _ _ _ h => h) ?_ hHeld ?_
                rotate_left
                focus (intro w hSw; (try dsimp only at hSw); go_simp; (try with_reducible rfl); done)
                go_frame
                refine tkyQ 21 (some 51) (v := ?_) rfl (by kernel_rfl) (by kernel_rfl) (by kernel_rfl) (fun _ _ _ h => h) ?_ hHeld ?_
                rotate_left
                focus (intro w hSw; (try dsimp only at hSw); go_simp; (try with_reducible rfl); done)
                go_frame
                refine tkyQ 22 (some 52) (v := ?_) rfl (by kernel_rfl) (by kernel_rfl) (by kernel_rfl) (fun _ _ _ h => h) ?_ hHeld ?_
                rotate_left
                focus (intro w hSw; (try dsimp only at hSw); go_simp; (try with_reducible rfl); done)
                go_frame
                refine tkyQ 23 (some 53) (v := ?_) rfl (by kernel_rfl) (by kernel_rfl) (by kernel_rfl) (fun _ _ _ h => h) ?_ hHeld ?_
                rotate_left
                focus (intro w hSw; (try dsimp only at hSw); go_simp; (try with_reducible rfl); done)
                go_frame
                refine tkyQ 24 (some 54) (v := ?_) rfl (by kernel_rfl) (by kernel_rfl) (by kernel_rfl) (fun _ _ _ h => h) ?_ hHeld ?_
                rotate_left
                focus (intro w hSw; (try dsimp only at hSw); go_simp; (try with_reducible rfl); done)
                go_frame
                refine tkyQ 25 (some 55) (v := ?_) rfl (by kernel_rfl) (by kernel_rfl) (by kernel_rfl) (fun _ _ _ h => h) ?_ hHeld ?_
                rotate_left
                focus (intro w hSw; (try dsimp only at hSw); go_simp; (try with_reducible rfl); done)
                go_frame
                refine tkyQ 26 (some 56) (v := ?_) rfl (by kernel_rfl) (by kernel_rfl) (by kernel_rfl) (fun _ _ _ h => h) ?_ hHeld ?_
                rotate_left
                focus (intro w hSw; (try dsimp only at hSw); go_simp; (try with_reducible rfl); done)
                go_frame
                refine tkyQ 27 (some 4) (v := ?_) rfl (by kernel_rfl) (by kernel_rfl) (by kernel_rfl) (fun _ _ _ h => h) ?_ hHeld ?_
                rotate_left
                focus (intro w hSw; (try dsimp only at hSw); go_simp; (try with_reducible rfl); done)
                go_frame
                refine wpAnyH_done (by kernel_rfl) ?_ _
                go_wp2_with fail
                go_meet
                refine ⟨congrArg Value.bool ?_, hHeld⟩
                ((try rw [P4.out]); (try rw [P5.out]); (try rw [Q4.out]); (try simp only [HBL.out]); (first | rfl | (simp; done)))
            · refine wp_region_held_drew (S := (fun W => W.cell? ⟨w.heap.size, 0, none⟩ = some (.string sc) ∧ W.cell? ⟨w.heap.size, 1, none⟩ = some (.string us) ∧ W.cell? ⟨w.heap.size, 2, none⟩ = some (.string ho) ∧ W.cell? ⟨w.heap.size, 3, none⟩ = some (.string po) ∧ W.cell? ⟨w.heap.size, 4, none⟩ = some (.string pa) ∧ W.cell? ⟨w.heap.size, 5, none⟩ = some (.string qu) ∧ W.cell? ⟨w.heap.size, 6, none⟩ = some (.bool true) ∧ W.cell? ⟨w.heap.size, 7, none⟩ = some (.bool hq) ∧ w.heap.size < W.heap.size ∧ Below w.heap.size w W)) (by kernel_rfl) (KS.drew ⟨a0, a1, a2, a3, a4, a5, a6, a7, hl, hw⟩) (fun hHeld => ?_)
              refine tkyQ 0 (some 30) (v := ?_) rfl (by kernel_rfl) (by kernel_rfl) (by kernel_rfl) (fun _ _ _ h => h) ?_ hHeld ?_
              rotate_left
              focus (intro w hSw; (try dsimp only at hSw); go_simp; (try with_reducible rfl); done)
              go_frame
              refine tkyQ 1 (some 31) (v := ?_) rfl (by kernel_rfl) (by kernel_rfl) (by kernel_rfl) (fun _ _ _ h => h) ?_ hHeld ?_
              rotate_left
              focus (intro w hSw; (try dsimp only at hSw); go_simp; (try with_reducible rfl); done)
              go_frame
              refine rconsQ 2 rfl (by kernel_rfl) (fun K hK => ?_)
              go_simp
              refine hK.out _ _ (by first | exact KS.allocd _ hHeld | exact KS.alloc _ hHeld) (fun hHeld2 => ?_)
              clear hK K hHeld
              have hHeld := hHeld2
              clear hHeld2
              (try go_frame)
              refine rconsQ 3 rfl (by kernel_rfl) (fun K hK => ?_)
              go_simp
              (refine (HO3.out _ _ (by first | exact new_cell _ _ _ _ _ rfl | exact new_celld _ _ _ _ _ rfl) (by first | exact new_cell _ _ _ _ _ rfl | exact new_celld _ _ _ _ _ rfl) (by first | exact new_cell _ _ _ _ _ rfl | exact new_celld _ _ _ _ _ rfl) (by first | exact new_lt _ _ | exact new_ltd _ _)).mono ?_; rintro e w2 ⟨rfl, hb⟩)
              (try dsimp only)
              refine hK.out _ _ (KS.below hb hHeld) (fun hHeld2 => ?_)
              clear hK K hHeld
              have hHeld := hHeld2
              clear hHeld2
              (try go_frame)
              refine rconsQ 4 rfl (by kernel_rfl) (fun K hK => ?_)
              go_simp
              (refine (HM3.out _).mono ?_; rintro e w2 ⟨rfl, hb⟩)
              (try dsimp only)
              refine hK.out _ _ (KS.below hb hHeld) (fun hHeld2 => ?_)
              clear hK K hHeld
              have hHeld := hHeld2
              clear hHeld2
              (try go_frame)
              refine tkyQ 5 (some 35) (v := ?_) rfl (by kernel_rfl) (by kernel_rfl) (by kernel_rfl) (fun _ _ _ h => h) ?_ hHeld ?_
              rotate_left
              focus (intro w hSw; (try dsimp only at hSw); go_simp; (try with_reducible rfl); done)
              go_frame
              refine tkyQ 6 (some 36) (v := ?_) rfl (by kernel_rfl) (by kernel_rfl) (by kernel_rfl) (fun _ _ _ h => h) ?_ hHeld ?_
              rotate_left
              focus (intro w hSw; (try dsimp only at hSw); go_simp; (try with_reducible rfl); done)
              go_frame
              refine tkyQ 7 (some 37) (v := ?_) rfl (by kernel_rfl) (by kernel_rfl) (by kernel_rfl) (fun _ _ _ h => h) ?_ hHeld ?_
              rotate_left
              focus (intro w hSw; (try dsimp only at hSw); go_simp; (try with_reducible rfl); done)
              go_frame
              refine rconsQ 8 rfl (by kernel_rfl) (fun K hK => ?_)
              go_simp
              refine hK.out _ _ (by first | exact KS.allocd _ hHeld | exact KS.alloc _ hHeld) (fun hHeld2 => ?_)
              clear hK K hHeld
              have hHeld := hHeld2
              clear hHeld2
              (try go_frame)
              refine rconsQ 9 rfl (by kernel_rfl) (fun K hK => ?_)
              go_simp
              (refine (HO4.out _ _ (by first | exact new_cell _ _ _ _ _ rfl | exact new_celld _ _ _ _ _ rfl) (by first | exact new_cell _ _ _ _ _ rfl | exact new_celld _ _ _ _ _ rfl) (by first | exact new_lt _ _ | exact new_ltd _ _)).mono ?_; rintro e w2 ⟨rfl, hb⟩)
              (try dsimp only)
              refine hK.out _ _ (KS.below hb hHeld) (fun hHeld2 => ?_)
              clear hK K hHeld
              have hHeld := hHeld2
              clear hHeld2
              (try go_frame)
              refine rconsQ 10 rfl (by kernel_rfl) (fun K hK => ?_)
              go_simp
              (refine (HM4.out _).mono ?_; rintro e w2 ⟨rfl, hb⟩)
              (try dsimp only)
              refine hK.out _ _ (KS.below hb hHeld) (fun hHeld2 => ?_)
              clear hK K hHeld
              have hHeld := hHeld2
              clear hHeld2
              (try go_frame)
              refine tkyQ 11 (some 41) (v := ?_) rfl (by kernel_rfl) (by kernel_rfl) (by kernel_rfl) (fun _ _ _ h => h) ?_ hHeld ?_
              rotate_left
              focus (intro w hSw; (try dsimp only at hSw); go_simp; (try with_reducible rfl); done)
              go_frame
              refine tkyQ 12 (some 42) (v := ?_) rfl (by kernel_rfl) (by kernel_rfl) (by kernel_rfl) (fun _ _ _ h => h) ?_ hHeld ?_
              rotate_left
              focus (intro w hSw; (try dsimp only at hSw); go_simp; (try with_reducible rfl); done)
              go_frame
              refine tkyQ 13 (some 43) (v := ?_) rfl (by kernel_rfl) (by kernel_rfl) (by kernel_rfl) (fun _ _ _ h => h) ?_ hHeld ?_
              rotate_left
              focus (intro w hSw; (try dsimp only at hSw); go_simp; (try with_reducible rfl); done)
              go_frame
              refine tkyQ 14 (some 44) (v := ?_) rfl (by kernel_rfl) (by kernel_rfl) (by kernel_rfl) (fun _ _ _ h => h) ?_ hHeld ?_
              rotate_left
              focus (intro w hSw; (try dsimp only at hSw); go_simp; (try with_reducible rfl); done)
              go_frame
              refine rconsQ 15 rfl (by kernel_rfl) (fun K hK => ?_)
              go_simp
              (refine (HT.out _).mono ?_; rintro e w2 ⟨rfl, hb⟩)
              (try dsimp only)
              refine hK.out _ _ (KS.below hb hHeld) (fun hHeld2 => ?_)
              clear hK K hHeld
              have hHeld := hHeld2
              clear hHeld2
              (try go_frame)
              refine tkyQ 16 (some 46) (v := ?_) rfl (by kernel_rfl) (by kernel_rfl) (by kernel_rfl) (fun _ _ _ h => h) ?_ hHeld ?_
              rotate_left
              focus (intro w hSw; (try dsimp only at hSw); go_simp; (try with_reducible rfl); done)
              go_frame
              refine tkyQ 17 (some 47) (v := ?_) rfl (by kernel_rfl) (by kernel_rfl) (by kernel_rfl) (fun _ _ _ h => h) ?_ hHeld ?_
              rotate_left
              focus (intro w hSw; (try dsimp only at hSw); go_simp; (try with_reducible rfl); done)
              go_frame
              refine tkyQ 18 (some 48) (v := ?_) rfl (by kernel_rfl) (by kernel_rfl) (by kernel_rfl) (fun _ _ _ h => h) ?_ hHeld ?_
              rotate_left
              focus (intro w hSw; (try dsimp only at hSw); go_simp; (try with_reducible rfl); done)
              go_frame
              refine tkyQ 19 (some 49) (v := ?_) rfl (by kernel_rfl) (by kernel_rfl) (by kernel_rfl) (fun _ _ _ h => h) ?_ hHeld ?_
              rotate_left
              focus (intro w hSw; (try dsimp only at hSw); go_simp; (try with_reducible rfl); done)
              go_frame
              refine tkyQ 20 (some 50) (v := ?_) rfl (by kernel_rfl) (by kernel_rfl) (by kernel_rfl) (fun _ _ _ h => h) ?_ hHeld ?_
              rotate_left
              focus (intro w hSw; (try dsimp only at hSw); go_simp; (try with_reducible rfl); done)
              go_frame
              refine tkyQ 21 (some 51) (v := ?_) rfl (by kernel_rfl) (by kernel_rfl) (by kernel_rfl) (fun _ _ _ h => h) ?_ hHeld ?_
              rotate_left
              focus (intro w hSw; (try dsimp only at hSw); go_simp; (try with_reducible rfl); done)
              go_frame
              refine tknQ 22 (some 52) rfl (by kernel_rfl) (by kernel_rfl) (by kernel_rfl) (fun _ _ _ h => h) hHeld ?_
              go_frame
              refine tknQ 23 (some 53) rfl (by kernel_rfl) (by kernel_rfl) (by kernel_rfl) (fun _ _ _ h => h) hHeld ?_
              go_frame
              refine tknQ 24 (some 54) rfl (by kernel_rfl) (by kernel_rfl) (by kernel_rfl) (fun _ _ _ h => h) hHeld ?_
              go_frame
              refine tkyQ 25 (some 55) (v := ?_) rfl (by kernel_rfl) (by kernel_rfl) (by kernel_rfl) (fun _ _ _ h => h) ?_ hHeld ?_
              rotate_left
              focus (intro w hSw; (try dsimp only at hSw); go_simp; (try with_reducible rfl); done)
              go_frame
              refine tkyQ 26 (some 56) (v := ?_) rfl (by kernel_rfl) (by kernel_rfl) (by kernel_rfl) (fun _ _ _ h => h) ?_ hHeld ?_
              rotate_left
              focus (intro w hSw; (try dsimp only at hSw); go_simp; (try with_reducible rfl); done)
              go_frame
              refine tkyQ 27 (some 4) (v := ?_) rfl (by kernel_rfl) (by kernel_rfl) (by kernel_rfl) (fun _ _ _ h => h) ?_ hHeld ?_
              rotate_left
              focus (intro w hSw; (try dsimp only at hSw); go_simp; (try with_reducible rfl); done)
              go_frame
              refine wpAnyH_done (by kernel_rfl) ?_ _
              go_wp2_with fail
              go_meet
              refine ⟨congrArg Value.bool ?_, hHeld⟩
              ((try rw [P4.out]); (try rw [P5.out]); (try rw [Q4.out]); (try simp only [HBL.out]); (first | rfl | (simp; done)))
          · refine wp_region_held_drew (S := (fun W => W.cell? ⟨w.heap.size, 0, none⟩ = some (.string sc) ∧ W.cell? ⟨w.heap.size, 1, none⟩ = some (.string us) ∧ W.cell? ⟨w.heap.size, 2, none⟩ = some (.string ho) ∧ W.cell? ⟨w.heap.size, 3, none⟩ = some (.string po) ∧ W.cell? ⟨w.heap.size, 4, none⟩ = some (.string pa) ∧ W.cell? ⟨w.heap.size, 5, none⟩ = some (.string qu) ∧ W.cell? ⟨w.heap.size, 6, none⟩ = some (.bool hu) ∧ W.cell? ⟨w.heap.size, 7, none⟩ = some (.bool hq) ∧ w.heap.size < W.heap.size ∧ Below w.heap.size w W)) (by kernel_rfl) (KS.drew ⟨a0, a1, a2, a3, a4, a5, a6, a7, hl, hw⟩) (fun hHeld => ?_)
            refine tkyQ 0 (some 30) (v := ?_) rfl (by kernel_rfl) (by kernel_rfl) (by kernel_rfl) (fun _ _ _ h => h) ?_ hHeld ?_
            rotate_left
            focus (intro w hSw; (try dsimp only at hSw); go_simp; (try with_reducible rfl); done)
            go_frame
            refine tkyQ 1 (some 31) (v := ?_) rfl (by kernel_rfl) (by kernel_rfl) (by kernel_rfl) (fun _ _ _ h => h) ?_ hHeld ?_
            rotate_left
            focus (intro w hSw; (try dsimp only at hSw); go_simp; (try with_reducible rfl); done)
            go_frame
            refine rconsQ 2 rfl (by kernel_rfl) (fun K hK => ?_)
            go_simp
            refine hK.out _ _ (by first | exact KS.allocd _ hHeld | exact KS.alloc _ hHeld) (fun hHeld2 => ?_)
            clear hK K hHeld
            have hHeld := hHeld2
            clear hHeld2
            (try go_frame)
            refine rconsQ 3 rfl (by kernel_rfl) (fun K hK => ?_)
            go_simp
            (refine (HO3.out _ _ (by first | exact new_cell _ _ _ _ _ rfl | exact new_celld _ _ _ _ _ rfl) (by first | exact new_cell _ _ _ _ _ rfl | exact new_celld _ _ _ _ _ rfl) (by first | exact new_cell _ _ _ _ _ rfl | exact new_celld _ _ _ _ _ rfl) (by first | exact new_lt _ _ | exact new_ltd _ _)).mono ?_; rintro e w2 ⟨rfl, hb⟩)
            (try dsimp only)
            refine hK.out _ _ (KS.below hb hHeld) (fun hHeld2 => ?_)
            clear hK K hHeld
            have hHeld := hHeld2
            clear hHeld2
            (try go_frame)
            refine rconsQ 4 rfl (by kernel_rfl) (fun K hK => ?_)
            go_simp
            (refine (HM3.out _).mono ?_; rintro e w2 ⟨rfl, hb⟩)
            (try dsimp only)
            refine hK.out _ _ (KS.below hb hHeld) (fun hHeld2 => ?_)
            clear hK K hHeld
            have hHeld := hHeld2
            clear hHeld2
            (try go_frame)
            refine tkyQ 5 (some 35) (v := ?_) rfl (by kernel_rfl) (by kernel_rfl) (by kernel_rfl) (fun _ _ _ h => h) ?_ hHeld ?_
            rotate_left
            focus (intro w hSw; (try dsimp only at hSw); go_simp; (try with_reducible rfl); done)
            go_frame
            refine tkyQ 6 (some 36) (v := ?_) rfl (by kernel_rfl) (by kernel_rfl) (by kernel_rfl) (fun _ _ _ h => h) ?_ hHeld ?_
            rotate_left
            focus (intro w hSw; (try dsimp only at hSw); go_simp; (try with_reducible rfl); done)
            go_frame
            refine tkyQ 7 (some 37) (v := ?_) rfl (by kernel_rfl) (by kernel_rfl) (by kernel_rfl) (fun _ _ _ h => h) ?_ hHeld ?_
            rotate_left
            focus (intro w hSw; (try dsimp only at hSw); go_simp; (try with_reducible rfl); done)
            go_frame
            refine rconsQ 8 rfl (by kernel_rfl) (fun K hK => ?_)
            go_simp
            refine hK.out _ _ (by first | exact KS.allocd _ hHeld | exact KS.alloc _ hHeld) (fun hHeld2 => ?_)
            clear hK K hHeld
            have hHeld := hHeld2
            clear hHeld2
            (try go_frame)
            refine rconsQ 9 rfl (by kernel_rfl) (fun K hK => ?_)
            go_simp
            (refine (HO4.out _ _ (by first | exact new_cell _ _ _ _ _ rfl | exact new_celld _ _ _ _ _ rfl) (by first | exact new_cell _ _ _ _ _ rfl | exact new_celld _ _ _ _ _ rfl) (by first | exact new_lt _ _ | exact new_ltd _ _)).mono ?_; rintro e w2 ⟨rfl, hb⟩)
            (try dsimp only)
            refine hK.out _ _ (KS.below hb hHeld) (fun hHeld2 => ?_)
            clear hK K hHeld
            have hHeld := hHeld2
            clear hHeld2
            (try go_frame)
            refine rconsQ 10 rfl (by kernel_rfl) (fun K hK => ?_)
            go_simp
            (refine (HM4.out _).mono ?_; rintro e w2 ⟨rfl, hb⟩)
            (try dsimp only)
            refine hK.out _ _ (KS.below hb hHeld) (fun hHeld2 => ?_)
            clear hK K hHeld
            have hHeld := hHeld2
            clear hHeld2
            (try go_frame)
            refine tkyQ 11 (some 41) (v := ?_) rfl (by kernel_rfl) (by kernel_rfl) (by kernel_rfl) (fun _ _ _ h => h) ?_ hHeld ?_
            rotate_left
            focus (intro w hSw; (try dsimp only at hSw); go_simp; (try with_reducible rfl); done)
            go_frame
            refine tkyQ 12 (some 42) (v := ?_) rfl (by kernel_rfl) (by kernel_rfl) (by kernel_rfl) (fun _ _ _ h => h) ?_ hHeld ?_
            rotate_left
            focus (intro w hSw; (try dsimp only at hSw); go_simp; (try with_reducible rfl); done)
            go_frame
            refine tkyQ 13 (some 43) (v := ?_) rfl (by kernel_rfl) (by kernel_rfl) (by kernel_rfl) (fun _ _ _ h => h) ?_ hHeld ?_
            rotate_left
            focus (intro w hSw; (try dsimp only at hSw); go_simp; (try with_reducible rfl); done)
            go_frame
            refine tkyQ 14 (some 44) (v := ?_) rfl (by kernel_rfl) (by kernel_rfl) (by kernel_rfl) (fun _ _ _ h => h) ?_ hHeld ?_
            rotate_left
            focus (intro w hSw; (try dsimp only at hSw); go_simp; (try with_reducible rfl); done)
            go_frame
            refine rconsQ 15 rfl (by kernel_rfl) (fun K hK => ?_)
            go_simp
            (refine (HT.out _).mono ?_; rintro e w2 ⟨rfl, hb⟩)
            (try dsimp only)
            refine hK.out _ _ (KS.below hb hHeld) (fun hHeld2 => ?_)
            clear hK K hHeld
            have hHeld := hHeld2
            clear hHeld2
            (try go_frame)
            refine tkyQ 16 (some 46) (v := ?_) rfl (by kernel_rfl) (by kernel_rfl) (by kernel_rfl) (fun _ _ _ h => h) ?_ hHeld ?_
            rotate_left
            focus (intro w hSw; (try dsimp only at hSw); go_simp; (try with_reducible rfl); done)
            go_frame
            refine tkyQ 17 (some 47) (v := ?_) rfl (by kernel_rfl) (by kernel_rfl) (by kernel_rfl) (fun _ _ _ h => h) ?_ hHeld ?_
            rotate_left
            focus (intro w hSw; (try dsimp only at hSw); go_simp; (try with_reducible rfl); done)
            go_frame
            refine tkyQ 18 (some 48) (v := ?_) rfl (by kernel_rfl) (by kernel_rfl) (by kernel_rfl) (fun _ _ _ h => h) ?_ hHeld ?_
            rotate_left
            focus (intro w hSw; (try dsimp only at hSw); go_simp; (try with_reducible rfl); done)
            go_frame
            refine tknQ 19 (some 49) rfl (by kernel_rfl) (by kernel_rfl) (by kernel_rfl) (fun _ _ _ h => h) hHeld ?_
            go_frame
            refine tknQ 20 (some 50) rfl (by kernel_rfl) (by kernel_rfl) (by kernel_rfl) (fun _ _ _ h => h) hHeld ?_
            go_frame
            refine tknQ 21 (some 51) rfl (by kernel_rfl) (by kernel_rfl) (by kernel_rfl) (fun _ _ _ h => h) hHeld ?_
            go_frame
            refine tknQ 22 (some 52) rfl (by kernel_rfl) (by kernel_rfl) (by kernel_rfl) (fun _ _ _ h => h) hHeld ?_
            go_frame
            refine tknQ 23 (some 53) rfl (by kernel_rfl) (by kernel_rfl) (by kernel_rfl) (fun _ _ _ h => h) hHeld ?_
            go_frame
            refine tknQ 24 (some 54) rfl (by kernel_rfl) (by kernel_rfl) (by kernel_rfl) (fun _ _ _ h => h) hHeld ?_
            go_frame
            refine tknQ 25 (some 55) rfl (by kernel_rfl) (by kernel_rfl) (by kernel_rfl) (fun _ _ _ h => h) hHeld ?_
            go_frame
            refine tkyQ 26 (some 56) (v := ?_) rfl (by kernel_rfl) (by kernel_rfl) (by kernel_rfl) (fun _ _ _ h => h) ?_ hHeld ?_
            rotate_left
            focus (intro w hSw; (try dsimp only at hSw); go_simp; (try with_reducible rfl); done)
            go_frame
            refine tkyQ 27 (some 4) (v := ?_) rfl (by kernel_rfl) (by kernel_rfl) (by kernel_rfl) (fun _ _ _ h => h) ?_ hHeld ?_
            rotate_left
            focus (intro w hSw; (try dsimp only at hSw); go_simp; (try with_reducible rfl); done)
            go_frame
            refine wpAnyH_done (by kernel_rfl) ?_ _
            go_wp2_with fail
            go_meet
            refine ⟨congrArg Value.bool ?_, hHeld⟩
            ((try rw [P4.out]); (try rw [P5.out]); (try rw [Q4.out]); (try simp only [HBL.out]); (first | rfl | (simp; done)))
    case rest =>
      rename World => wy
      obtain ⟨rfl, hK⟩ := hcut
      clear a0 a1 a2 a3 a4 a5 a6 a7 hl hw
      obtain ⟨c2, hc2⟩ : ∃ c2, (b2 && b3 && b4 && (hu || us.data.toList.isEmpty)) = c2 := ⟨_, rfl⟩
      rw [hc2]
      have HC2 := Lib.hid hc2
      clear hc2
      obtain ⟨a0, a1, a2, a3, a4, a5, a6, a7, hl, hw⟩ := hK
      go_upto_region 3 with fail
      go_cut [5] (fun s5 wz => s5 = .bool (b5 && (pa.data.toList.isEmpty || pa.data.toList.head? == some 47) && b6 && (hq || qu.data.toList.isEmpty)) ∧ KS sc us ho po pa qu hu hq w wz)
      case first =>
        cases b5
        · refine wp_region_held_drew (S := (fun W => W.cell? ⟨w.heap.size, 0, none⟩ = some (.string sc) ∧ W.cell? ⟨w.heap.size, 1, none⟩ = some (.string us) ∧ W.cell? ⟨w.heap.size, 2, none⟩ = some (.string ho) ∧ W.cell? ⟨w.heap.size, 3, none⟩ = some (.string po) ∧ W.cell? ⟨w.heap.size, 4, none⟩ = some (.string pa) ∧ W.cell? ⟨w.heap.size, 5, none⟩ = some (.string qu) ∧ W.cell? ⟨w.heap.size, 6, none⟩ = some (.bool hu) ∧ W.cell? ⟨w.heap.size, 7, none⟩ = some (.bool hq) ∧ w.heap.size < W.heap.size ∧ Below w.heap.size w W)) (by kernel_rfl) (KS.drew ⟨a0, a1, a2, a3, a4, a5, a6, a7, hl, hw⟩) (fun hHeld => ?_)
          refine tkyQ 0 (some 57) (v := ?_) rfl (by kernel_rfl) (by kernel_rfl) (by kernel_rfl) (fun _ _ _ h => h) ?_ hHeld ?_
          rotate_left
          focus (intro w hSw; (try dsimp only at hSw); go_simp; (try with_reducible rfl); done)
          go_frame
          refine tkyQ 1 (some 58) (v := ?_) rfl (by kernel_rfl) (by kernel_rfl) (by kernel_rfl) (fun _ _ _ h => h) ?_ hHeld ?_
          rotate_left
          focus (intro w hSw; (try dsimp only at hSw); go_simp; (try with_reducible rfl); done)
          go_frame
          refine rconsQ 2 rfl (by kernel_rfl) (fun K hK => ?_)
          go_simp
          refine hK.out _ _ (by first | exact KS.allocd _ hHeld | exact KS.alloc _ hHeld) (fun hHeld2 => ?_)
          clear hK K hHeld
          have hHeld := hHeld2
          clear hHeld2
          (try go_frame)
          refine rconsQ 3 rfl (by kernel_rfl) (fun K hK => ?_)
          go_simp
          (refine (HO5.out _ _ (by first | exact new_cell _ _ _ _ _ rfl | exact new_celld _ _ _ _ _ rfl) (by first | exact new_cell _ _ _ _ _ rfl | exact new_celld _ _ _ _ _ rfl) (by first | exact new_cell _ _ _ _ _ rfl | exact new_celld _ _ _ _ _ rfl) (by first | exact new_lt _ _ | exact new_ltd _ _)).mono ?_; rintro e w2 ⟨rfl, hb⟩)
          (try dsimp only)
          refine hK.out _ _ (KS.below hb hHeld) (fun hHeld2 => ?_)
          clear hK K hHeld
          have hHeld := hHeld2
          clear hHeld2
          (try go_frame)
          refine rconsQ 4 rfl (by kernel_rfl) (fun K hK => ?_)
          go_simp
          (refine (HM5.out _).mono ?_; rintro e w2 ⟨rfl, hb⟩)
          (try dsimp only)
          refine hK.out _ _ (KS.below hb hHeld) (fun hHeld2 => ?_)
          clear hK K hHeld
          have hHeld := hHeld2
          clear hHeld2
          (try go_frame)
          refine tkyQ 5 (some 62) (v := ?_) rfl (by kernel_rfl) (by kernel_rfl) (by kernel_rfl) (fun _ _ _ h => h) ?_ hHeld ?_
          rotate_left
          focus (intro w hSw; (try dsimp only at hSw); go_simp; (try with_reducible rfl); done)
          go_frame
          refine tknQ 6 (some 63) rfl (by kernel_rfl) (by kernel_rfl) (by kernel_rfl) (fun _ _ _ h => h) hHeld ?_
          go_frame
          refine tknQ 7 (some 64) rfl (by kernel_rfl) (by kernel_rfl) (by kernel_rfl) (fun _ _ _ h => h) hHeld ?_
          go_frame
          refine tknQ 8 (some 65) rfl (by kernel_rfl) (by kernel_rfl) (by kernel_rfl) (fun _ _ _ h => h) hHeld ?_
          go_frame
          refine tknQ 9 (some 66) rfl (by kernel_rfl) (by kernel_rfl) (by kernel_rfl) (fun _ _ _ h => h) hHeld ?_
          go_frame
          refine tknQ 10 (some 67) rfl (by kernel_rfl) (by kernel_rfl) (by kernel_rfl) (fun _ _ _ h => h) hHeld ?_
          go_frame
          refine tknQ 11 (some 68) rfl (by kernel_rfl) (by kernel_rfl) (by kernel_rfl) (fun _ _ _ h => h) hHeld ?_
          go_frame
          refine tknQ 12 (some 69) rfl (by kernel_rfl) (by kernel_rfl) (by kernel_rfl) (fun _ _ _ h => h) hHeld ?_
          go_frame
          refine tknQ 13 (some 70) rfl (by kernel_rfl) (by kernel_rfl) (by kernel_rfl) (fun _ _ _ h => h) hHeld ?_
          go_frame
          refine tknQ 14 (some 71) rfl (by kernel_rfl) (by kernel_rfl) (by kernel_rfl) (fun _ _ _ h => h) hHeld ?_
          go_frame
          refine tkyQ 15 (some 72) (v := ?_) rfl (by kernel_rfl) (by kernel_rfl) (by kernel_rfl) (fun _ _ _ h => h) ?_ hHeld ?_
          rotate_left
          focus (intro w hSw; (try dsimp only at hSw); go_simp; (try with_reducible rfl); done)
          go_frame
          refine tkyQ 16 (some 73) (v := ?_) rfl (by kernel_rfl) (by kernel_rfl) (by kernel_rfl) (fun _ _ _ h => h) ?_ hHeld ?_
          rotate_left
          focus (intro w hSw; (try dsimp only at hSw); go_simp; (try with_reducible rfl); done)
          go_frame
          refine tknQ 17 (some 74) rfl (by kernel_rfl) (by kernel_rfl) (by kernel_rfl) (fun _ _ _ h => h) hHeld ?_
          go_frame
          refine tknQ 18 (some 75) rfl (by kernel_rfl) (by kernel_rfl) (by kernel_rfl) (fun _ _ _ h => h) hHeld ?_
          go_frame
          refine tknQ 19 (some 76) rfl (by kernel_rfl) (by kernel_rfl) (by kernel_rfl) (fun _ _ _ h => h) hHeld ?_
          go_frame
          refine tknQ 20 (some 77) rfl (by kernel_rfl) (by kernel_rfl) (by kernel_rfl) (fun _ _ _ h => h) hHeld ?_
          go_frame
          refine tknQ 21 (some 78) rfl (by kernel_rfl) (by kernel_rfl) (by kernel_rfl) (fun _ _ _ h => h) hHeld ?_
          go_frame
          refine tkyQ 22 (some 79) (v := ?_) rfl (by kernel_rfl) (by kernel_rfl) (by kernel_rfl) (fun _ _ _ h => h) ?_ hHeld ?_
          rotate_left
          focus (intro w hSw; (try dsimp only at hSw); go_simp; (try with_reducible rfl); done)
          go_frame
          refine tkyQ 23 (some 80) (v := ?_) rfl (by kernel_rfl) (by kernel_rfl) (by kernel_rfl) (fun _ _ _ h => h) ?_ hHeld ?_
          rotate_left
          focus (intro w hSw; (try dsimp only at hSw); go_simp; (try with_reducible rfl); done)
          go_frame
          refine tknQ 24 (some 81) rfl (by kernel_rfl) (by kernel_rfl) (by kernel_rfl) (fun _ _ _ h => h) hHeld ?_
          go_frame
          refine tknQ 25 (some 82) rfl (by kernel_rfl) (by kernel_rfl) (by kernel_rfl) (fun _ _ _ h => h) hHeld ?_
          go_frame
          refine tknQ 26 (some 83) rfl (by kernel_rfl) (by kernel_rfl) (by kernel_rfl) (fun _ _ _ h => h) hHeld ?_
          go_frame
          refine tknQ 27 (some 84) rfl (by kernel_rfl) (by kernel_rfl) (by kernel_rfl) (fun _ _ _ h => h) hHeld ?_
          go_frame
          refine tknQ 28 (some 85) rfl (by kernel_rfl) (by kernel_rfl) (by kernel_rfl) (fun _ _ _ h => h) hHeld ?_
          go_frame
          refine tknQ 29 (some 86) rfl (by kernel_rfl) (by kernel_rfl) (by kernel_rfl) (fun _ _ _ h => h) hHeld ?_
          go_frame
          refine tknQ 30 (some 87) rfl (by kernel_rfl) (by kernel_rfl) (by kernel_rfl) (fun _ _ _ h => h) hHeld ?_
          go_frame
          refine tkyQ 31 (some 88) (v := ?_) rfl (by kernel_rfl) (by kernel_rfl) (by kernel_rfl) (fun _ _ _ h => h) ?_ hHeld ?_
          rotate_left
          focus (intro w hSw; (try dsimp only at hSw); go_simp; (try with_reducible rfl); done)
          go_frame
          refine tkyQ 32 (some 5) (v := ?_) rfl (by kernel_rfl) (by kernel_rfl) (by kernel_rfl) (fun _ _ _ h => h) ?_ hHeld ?_
          rotate_left
          focus (intro w hSw; (try dsimp only at hSw); go_simp; (try with_reducible rfl); done)
          go_frame
          refine wpAnyH_done (by kernel_rfl) ?_ _
          go_wp2_with fail
          go_meet
          refine ⟨congrArg Value.bool ?_, hHeld⟩
          ((try rw [P4.out]); (try rw [P5.out]); (try rw [Q4.out]); (try simp only [HBL.out]); (first | rfl | (simp; done)))
        · rcases first_cases pa with ⟨p1, p2, p3, p4⟩ | ⟨p1, p2, p3, p4, p5⟩
          · have P4 := Lib.hid p4
            clear p4
            cases b6
            · refine wp_region_held_drew (S := (fun W => W.cell? ⟨w.heap.size, 0, none⟩ = some (.string sc) ∧ W.cell? ⟨w.heap.size, 1, none⟩ = some (.string us) ∧ W.cell? ⟨w.heap.size, 2, none⟩ = some (.string ho) ∧ W.cell? ⟨w.heap.size, 3, none⟩ = some (.string po) ∧ W.cell? ⟨w.heap.size, 4, none⟩ = some (.string pa) ∧ W.cell? ⟨w.heap.size, 5, none⟩ = some (.string qu) ∧ W.cell? ⟨w.heap.size, 6, none⟩ = some (.bool hu) ∧ W.cell? ⟨w.heap.size, 7, none⟩ = some (.bool hq) ∧ w.heap.size < W.heap.size ∧ Below w.heap.size w W)) (by kernel_rfl) (KS.drew ⟨a0, a1, a2, a3, a4, a5, a6, a7, hl, hw⟩) (fun hHeld => ?_)
              refine tkyQ 0 (some 57) (v := ?_) rfl (by kernel_rfl) (by kernel_rfl) (by kernel_rfl) (fun _ _ _ h => h) ?_ hHeld ?_
              rotate_left
              focus (intro w hSw; (try dsimp only at hSw); go_simp; (try with_reducible rfl); done)
              go_frame
              refine tkyQ 1 (some 58) (v := ?_) rfl (by kernel_rfl) (by kernel_rfl) (by kernel_rfl) (fun _ _ _ h => h) ?_ hHeld ?_
              rotate_left
              focus (intro w hSw; (try dsimp only at hSw); go_simp; (try with_reducible rfl); done)
              go_frame
              refine rconsQ 2 rfl (by kernel_rfl) (fun K hK => ?_)
              go_simp
              refine hK.out _ _ (by first | exact KS.allocd _ hHeld | exact KS.alloc _ hHeld) (fun hHeld2 => ?_)
              clear hK K hHeld
              have hHeld := hHeld2
              clear hHeld2
              (try go_frame)
              refine rconsQ 3 rfl (by kernel_rfl) (fun K hK => ?_)
              go_simp
              (refine (HO5.out _ _ (by first | exact new_cell _ _ _ _ _ rfl | exact new_celld _ _ _ _ _ rfl) (by first | exact new_cell _ _ _ _ _ rfl | exact new_celld _ _ _ _ _ rfl) (by first | exact new_cell _ _ _ _ _ rfl | exact new_celld _ _ _ _ _ rfl) (by first | exact new_lt _ _ | exact new_ltd _ _)).mono ?_; rintro e w2 ⟨rfl, hb⟩)
              (try dsimp only)
              refine hK.out _ _ (KS.below hb hHeld) (fun hHeld2 => ?_)
              clear hK K hHeld
              have hHeld := hHeld2
              clear hHeld2
              (try go_frame)
              refine rconsQ 4 rfl (by kernel_rfl) (fun K hK => ?_)
              go_simp
              (refine (HM5.out _).mono ?_; rintro e w2 ⟨rfl, hb⟩)
              (try dsimp only)
              refine hK.out _ _ (KS.below hb hHeld) (fun hHeld2 => ?_)
              clear hK K hHeld
              have hHeld := hHeld2
              clear hHeld2
              (try go_frame)
              refine tkyQ 5 (some 62) (v := ?_) rfl (by kernel_rfl) (by kernel_rfl) (by kernel_rfl) (fun _ _ _ h => h) ?_ hHeld ?_
              rotate_left
              focus (intro w hSw; (try dsimp only at hSw); go_simp; (try with_reducible rfl); done)
              go_frame
              refine tkyQ 6 (some 63) (v := ?_) rfl (by kernel_rfl) (by kernel_rfl) (by kernel_rfl) (fun _ _ _ h => h) ?_ hHeld ?_
              rotate_left
              focus (intro w hSw; (try dsimp only at hSw); go_simp; (try with_reducible rfl); done)
              go_frame
              refine tkyQ 7 (some 64) (v := ?_) rfl (by kernel_rfl) (by kernel_rfl) (by kernel_rfl) (fun _ _ _ h => h) ?_ hHeld ?_
              rotate_left
              focus (intro w hSw; (try dsimp only at hSw); go_simp; (try with_reducible rfl); done)
              go_frame
              refine tkyQ 8 (some 65) (v := ?_) rfl (by kernel_rfl) (by kernel_rfl) (by kernel_rfl) (fun _ _ _ h => h) ?_ hHeld ?_
              rotate_left
              focus (intro w hSw; (try dsimp only at hSw); go_simp; (try with_reducible rfl); done)
              go_frame
              refine tkyQ 9 (some 66) (v := ?_) rfl (by kernel_rfl) (by kernel_rfl) (by kernel_rfl) (fun _ _ _ h => h) ?_ hHeld ?_
              rotate_left
              focus (intro w hSw; (try dsimp only at hSw); go_simp; (try with_reducible rfl); done)
              go_frame
              refine tknQ 10 (some 67) rfl (by kernel_rfl) (by kernel_rfl) (by kernel_rfl) (fun _ _ _ h => h) hHeld ?_
              go_frame
              refine tknQ 11 (some 68) rfl (by kernel_rfl) (by kernel_rfl) (by kernel_rfl) (fun _ _ _ h => h) hHeld ?_
              go_frame
              refine tknQ 12 (some 69) rfl (by kernel_rfl) (by kernel_rfl) (by kernel_rfl) (fun _ _ _ h => h) hHeld ?_
              go_frame
              refine tknQ 13 (some 70) rfl (by kernel_rfl) (by kernel_rfl) (by kernel_rfl) (fun _ _ _ h => h) hHeld ?_
              go_frame
              refine tkyQ 14 (some 71) (v := ?_) rfl (by kernel_rfl) (by kernel_rfl) (by kernel_rfl) (fun _ _ _ h => h) ?_ hHeld ?_
              rotate_left
              focus (intro w hSw; (try dsimp only at hSw); go_simp; (try with_reducible rfl); done)
              go_frame
              refine tkyQ 15 (some 72) (v := ?_) rfl (by kernel_rfl) (by kernel_rfl) (by kernel_rfl) (fun _ _ _ h => h) ?_ hHeld ?_
              rotate_left
              focus (intro w hSw; (try dsimp only at hSw); go_simp; (try with_reducible rfl); done)
              go_frame
              refine tkyQ 16 (some 73) (v := ?_) rfl (by kernel_rfl) (by kernel_rfl) (by kernel_rfl) (fun _ _ _ h => h) ?_ hHeld ?_
              rotate_left
              focus (intro w hSw; (try dsimp only at hSw); go_simp; (try with_reducible rfl); done)
              go_frame
              refine tkyQ 17 (some 74) (v := ?_) rfl (by kernel_rfl) (by kernel_rfl) (by kernel_rfl) (fun _ _ _ h => h) ?_ hHeld ?_
              rotate_left
              focus (intro w hSw; (try dsimp only at hSw); go_simp; (try with_reducible rfl); done)
              go_frame
              refine tkyQ 18 (some 75) (v := ?_) rfl (by kernel_rfl) (by kernel_rfl) (by kernel_rfl) (fun _ _ _ h => h) ?_ hHeld ?_
              rotate_left
              focus (intro w hSw; (try dsimp only at hSw); go_simp; (try with_reducible rfl); done)
              go_frame
              refine rconsQ 19 rfl (by kernel_rfl) (fun K hK => ?_)
              go_simp
              refine hK.out _ _ (by first | exact KS.allocd _ hHeld | exact KS.alloc _ hHeld) (fun hHeld2 => ?_)
              clear hK K hHeld
              have hHeld := hHeld2
              clear hHeld2
              (try go_frame)
              refine rconsQ 20 rfl (by kernel_rfl) (fun K hK => ?_)
              go_simp
              (refine (HO6.out _ _ (by first | exact new_cell _ _ _ _ _ rfl | exact new_celld _ _ _ _ _ rfl) (by first | exact new_cell _ _ _ _ _ rfl | exact new_celld _ _ _ _ _ rfl) (by first | exact new_cell _ _ _ _ _ rfl | exact new_celld _ _ _ _ _ rfl) (by first | exact new_lt _ _ | exact new_ltd _ _)).mono ?_; rintro e w2 ⟨rfl, hb⟩)
              (try dsimp only)
              refine hK.out _ _ (KS.below hb hHeld) (fun hHeld2 => ?_)
              clear hK K hHeld
              have hHeld := hHeld2
              clear hHeld2
              (try go_frame)
              refine rconsQ 21 rfl (by kernel_rfl) (fun K hK => ?_)
              go_simp
              (refine (HM6.out _).mono ?_; rintro e w2 ⟨rfl, hb⟩)
              (try dsimp only)
              refine hK.out _ _ (KS.below hb hHeld) (fun hHeld2 => ?_)
              clear hK K hHeld
              have hHeld := hHeld2
              clear hHeld2
              (try go_frame)
              refine tkyQ 22 (some 79) (v := ?_) rfl (by kernel_rfl) (by kernel_rfl) (by kernel_rfl) (fun _ _ _ h => h) ?_ hHeld ?_
              rotate_left
              focus (intro w hSw; (try dsimp only at hSw); go_simp; (try with_reducible rfl); done)
              go_frame
              refine tkyQ 23 (some 80) (v := ?_) rfl (by kernel_rfl) (by kernel_rfl) (by kernel_rfl) (fun _ _ _ h => h) ?_ hHeld ?_
              rotate_left
              focus (intro w hSw; (try dsimp only at hSw); go_simp; (try with_reducible rfl); done)
              go_frame
              refine tknQ 24 (some 81) rfl (by kernel_rfl) (by kernel_rfl) (by kernel_rfl) (fun _ _ _ h => h) hHeld ?_
              go_frame
              refine tknQ 25 (some 82) rfl (by kernel_rfl) (by kernel_rfl) (by kernel_rfl) (fun _ _ _ h => h) hHeld ?_
              go_frame
              refine tknQ 26 (some 83) rfl (by kernel_rfl) (by kernel_rfl) (by kernel_rfl) (fun _ _ _ h => h) hHeld ?_
              go_frame
              refine tknQ 27 (some 84) rfl (by kernel_rfl) (by kernel_rfl) (by kernel_rfl) (fun _ _ _ h => h) hHeld ?_
              go_frame
              refine tknQ 28 (some 85) rfl (by kernel_rfl) (by kernel_rfl) (by kernel_rfl) (fun _ _ _ h => h) hHeld ?_
              go_frame
              refine tknQ 29 (some 86) rfl (by kernel_rfl) (by kernel_rfl) (by kernel_rfl) (fun _ _ _ h => h) hHeld ?_
              go_frame
              refine tknQ 30 (some 87) rfl (by kernel_rfl) (by kernel_rfl) (by kernel_rfl) (fun _ _ _ h => h) hHeld ?_
              go_frame
              refine tkyQ 31 (some 88) (v := ?_) rfl (by kernel_rfl) (by kernel_rfl) (by kernel_rfl) (fun _ _ _ h => h) ?_ hHeld ?_
              rotate_left
              focus (intro w hSw; (try dsimp only at hSw); go_simp; (try with_reducible rfl); done)
              go_frame
              refine tkyQ 32 (some 5) (v := ?_) rfl (by kernel_rfl) (by kernel_rfl) (by kernel_rfl) (fun _ _ _ h => h) ?_ hHeld ?_
              rotate_left
              focus (intro w hSw; (try dsimp only at hSw); go_simp; (try with_reducible rfl); done)
              go_frame
              refine wpAnyH_done (by kernel_rfl) ?_ _
              go_wp2_with fail
              go_meet
              refine ⟨congrArg Value.bool ?_, hHeld⟩
              ((try rw [P4.out]); (try rw [P5.out]); (try rw [Q4.out]); (try simp only [HBL.out]); (first | rfl | (simp; done)))
            · cases hq
              · rcases first_cases qu with ⟨q1, q2, q3, q4⟩ | ⟨q1, q2, q3, q4, q5⟩
                · have Q4 := Lib.hid q4
                  clear q4
                  refine wp_region_held_drew (S := (fun W => W.cell? ⟨w.heap.size, 0, none⟩ = some (.string sc) ∧ W.cell? ⟨w.heap.size, 1, none⟩ = some (.string us) ∧ W.cell? ⟨w.heap.size, 2, none⟩ = some (.string ho) ∧ W.cell? ⟨w.heap.size, 3, none⟩ = some (.string po) ∧ W.cell? ⟨w.heap.size, 4, none⟩ = some (.string pa) ∧ W.cell? ⟨w.heap.size, 5, none⟩ = some (.string qu) ∧ W.cell? ⟨w.heap.size, 6, none⟩ = some (.bool hu) ∧ W.cell? ⟨w.heap.size, 7, none⟩ = some (.bool false) ∧ w.heap.size < W.heap.size ∧ Below w.heap.size w W)) (by kernel_rfl) (KS.drew ⟨a0, a1, a2, a3, a4, a5, a6, a7, hl, hw⟩) (fun hHeld => ?_)
                  refine tkyQ 0 (some 57) (v := ?_) rfl (by kernel_rfl) (by kernel_rfl) (by kernel_rfl) (fun _ _ _ h => h) ?_ hHeld ?_
                  rotate_left
                  focus (intro w hSw; (try dsimp only at hSw); go_simp; (try with_reducible rfl); done)
                  go_frame
                  refine tkyQ 1 (some 58) (v := ?_) rfl (by kernel_rfl) (by kernel_rfl) (by kernel_rfl) (fun _ _ _ h => h) ?_ hHeld ?_
                  rotate_left
                  focus (intro w hSw; (try dsimp only at hSw); go_simp; (try with_reducible rfl); done)
                  go_frame
                  refine rconsQ 2 rfl (by kernel_rfl) (fun K hK => ?_)
                  go_simp
                  refine hK.out _ _ (by first | exact KS.allocd _ hHeld | exact KS.alloc _ hHeld) (fun hHeld2 => ?_)
                  clear hK K hHeld
                  have hHeld := hHeld2
                  clear hHeld2
                  (try go_frame)
                  refine rconsQ 3 rfl (by kernel_rfl) (fun K hK => ?_)
                  go_simp
                  (refine (HO5.out _ _ (by first | exact new_cell _ _ _ _ _ rfl | exact new_celld _ _ _ _ _ rfl) (by first | exact new_cell _ _ _ _ _ rfl | exact new_celld _ _ _ _ _ rfl) (by first | exact new_cell _ _ _ _ _ rfl | exact new_celld _ _ _ _ _ rfl) (by first | exact new_lt _ _ | exact new_ltd _ _)).mono ?_; rintro e w2 ⟨rfl, hb⟩)
                  (try dsimp only)
                  refine hK.out _ _ (KS.below hb hHeld) (fun hHeld2 => ?_)
                  clear hK K hHeld
                  have hHeld := hHeld2
                  clear hHeld2
                  (try go_frame)
                  refine rconsQ 4 rfl (by kernel_rfl) (fun K hK => ?_)
                  go_simp
                  (refine (HM5.out _).mono ?_; rintro e w2 ⟨rfl, hb⟩)
                  (try dsimp only)
                  refine hK.out _ _ (KS.below hb hHeld) (fun hHeld2 => ?_)
                  clear hK K hHeld
                  have hHeld := hHeld2
                  clear hHeld2
                  (try go_frame)
                  refine tkyQ 5 (some 62) (v := ?_) rfl (by kernel_rfl) (by kernel_rfl) (by kernel_rfl) (fun _ _ _ h => h) ?_ hHeld ?_
                  rotate_left
                  focus (intro w hSw; (try dsimp only at hSw); go_simp; (try with_reducible rfl); done)
                  go_frame
                  refine tkyQ 6 (some 63) (v := ?_) rfl (by kernel_rfl) (by kernel_rfl) (by kernel_rfl) (fun _ _ _ h => h) ?_ hHeld ?_
                  rotate_left
                  focus (intro w hSw; (try dsimp only at hSw); go_simp; (try with_reducible rfl); done)
                  go_frame
                  refine tkyQ 7 (some 64) (v := ?_) rfl (by kernel_rfl) (by kernel_rfl) (by kernel_rfl) (fun _ _ _ h => h) ?_ hHeld ?_
                  rotate_left
                  focus (intro w hSw; (try dsimp only at hSw); go_simp; (try with_reducible rfl); done)
                  go_frame
                  refine tkyQ 8 (some 65) (v := ?_) rfl (by kernel_rfl) (by kernel_rfl) (by kernel_rfl) (fun _ _ _ h => h) ?_ hHeld ?_
                  rotate_left
                  focus (intro w hSw; (try dsimp only at hSw); go_simp; (try with_reducible rfl); done)
                  go_frame
                  refine tkyQ 9 (some 66) (v := ?_) rfl (by kernel_rfl) (by kernel_rfl) (by kernel_rfl) (fun _ _ _ h => h) ?_ hHeld ?_
                  rotate_left
                  focus (intro w hSw; (try dsimp only at hSw); go_simp; (try with_reducible rfl); done)
                  go_frame
                  refine tknQ 10 (some 67) rfl (by kernel_rfl) (by kernel_rfl) (by kernel_rfl) (fun _ _ _ h => h) hHeld ?_
                  go_frame
                  refine tknQ 11 (some 68) rfl (by kernel_rfl) (by kernel_rfl) (by kernel_rfl) (fun _ _ _ h => h) hHeld ?_
                  go_frame
                  refine tknQ 12 (some 69) rfl (by kernel_rfl) (by kernel_rfl) (by kernel_rfl) (fun _ _ _ h => h) hHeld ?_
                  go_frame
                  refine tknQ 13 (some 70) rfl (by kernel_rfl) (by kernel_rfl) (by kernel_rfl) (fun _ _ _ h => h) hHeld ?_
                  go_frame
                  refine tkyQ 14 (some 71) (v := ?_) rfl (by kernel_rfl) (by kernel_rfl) (by kernel_rfl) (fun _ _ _ h => h) ?_ hHeld ?_
                  rotate_left
                  focus (intro w hSw; (try dsimp only at hSw); go_simp; (try with_reducible rfl); done)
                  go_frame
                  refine tkyQ 15 (some 72) (v := ?_) rfl (by kernel_rfl) (by kernel_rfl) (by kernel_rfl) (fun _ _ _ h => h) ?_ hHeld ?_
                  rotate_left
                  focus (intro w hSw; (try dsimp only at hSw); go_simp; (try with_reducible rfl); done)
                  go_frame
                  refine tkyQ 16 (some 73) (v := ?_) rfl (by kernel_rfl) (by kernel_rfl) (by kernel_rfl) (fun _ _ _ h => h) ?_ hHeld ?_
                  rotate_left
                  focus (intro w hSw; (try dsimp only at hSw); go_simp; (try with_reducible rfl); done)
                  go_frame
                  refine tkyQ 17 (some 74) (v := ?_) rfl (by kernel_rfl) (by kernel_rfl) (by kernel_rfl) (fun _ _ _ h => h) ?_ hHeld ?_
                  rotate_left
                  focus (intro w hSw; (try dsimp only at hSw); go_simp; (try with_reducible rfl); done)
                  go_frame
                  refine tkyQ 18 (some 75) (v := ?_) rfl (by kernel_rfl) (by kernel_rfl) (by kernel_rfl) (fun _ _ _ h => h) ?_ hHeld ?_
                  rotate_left
                  focus (intro w hSw; (try dsimp only at hSw); go_simp; (try with_reducible rfl); done)
                  go_frame
                  refine rconsQ 19 rfl (by kernel_rfl) (fun K hK => ?_)
                  go_simp
                  refine hK.out _ _ (by first | exact KS.allocd _ hHeld | exact KS.alloc _ hHeld) (fun hHeld2 => ?_)
                  clear hK K hHeld
                  have hHeld := hHeld2
                  clear hHeld2
                  (try go_frame)
                  refine rconsQ 20 rfl (by kernel_rfl) (fun K hK => ?_)
                  go_simp
                  (refine (HO6.out _ _ (by first | exact new_cell _ _ _ _ _ rfl | exact new_celld _ _ _ _ _ rfl) (by first | exact new_cell _ _ _ _ _ rfl | exact new_celld _ _ _ _ _ rfl) (by first | exact new_cell _ _ _ _ _ rfl | exact new_celld _ _ _ _ _ rfl) (by first | exact new_lt _ _ | exact new_ltd _ _)).mono ?_; rintro e w2 ⟨rfl, hb⟩)
                  (try dsimp only)
                  refine hK.out _ _ (KS.below hb hHeld) (fun hHeld2 => ?_)
                  clear hK K hHeld
                  have hHeld := hHeld2
                  clear hHeld2
                  (try go_frame)
                  refine rconsQ 21 rfl (by kernel_rfl) (fun K hK => ?_)
                  go_simp
                  (refine (HM6.out _).mono ?_; rintro e w2 ⟨rfl, hb⟩)
                  (try dsimp only)
                  refine hK.out _ _ (KS.below hb hHeld) (fun hHeld2 => ?_)
                  clear hK K hHeld
                  have hHeld := hHeld2
                  clear hHeld2
                  (try go_frame)
                  refine tkyQ 22 (some 79) (v := ?_) rfl (by kernel_rfl) (by kernel_rfl) (by kernel_rfl) (fun _ _ _ h => h) ?_ hHeld ?_
                  rotate_left
                  focus (intro w hSw; (try dsimp only at hSw); go_simp; (try with_reducible rfl); done)
                  go_frame
                  refine tkyQ 23 (some 80) (v := ?_) rfl (by kernel_rfl) (by kernel_rfl) (by kernel_rfl) (fun _ _ _ h => h) ?_ hHeld ?_
                  rotate_left
                  focus (intro w hSw; (try dsimp only at hSw); go_simp; (try with_reducible rfl); done)
                  go_frame
                  refine tkyQ 24 (some 81) (v := ?_) rfl (by kernel_rfl) (by kernel_rfl) (by kernel_rfl) (fun _ _ _ h => h) ?_ hHeld ?_
                  rotate_left
                  focus (intro w hSw; (try dsimp only at hSw); go_simp; (try with_reducible rfl); done)
                  go_frame
                  refine tkyQ 25 (some 82) (v := ?_) rfl (by kernel_rfl) (by kernel_rfl) (by kernel_rfl) (fun _ _ _ h => h) ?_ hHeld ?_
                  rotate_left
                  focus (intro w hSw; (try dsimp only at hSw); go_simp; (try with_reducible rfl); done)
                  go_frame
                  refine tkyQ 26 (some 83) (v := ?_) rfl (by kernel_rfl) (by kernel_rfl) (by kernel_rfl) (fun _ _ _ h => h) ?_ hHeld ?_
                  rotate_left
                  focus (intro w hSw; (try dsimp only at hSw); go_simp; (try with_reducible rfl); done)
                  go_frame
                  refine tkyQ 27 (some 84) (v := ?_) rfl (by kernel_rfl) (by kernel_rfl) (by kernel_rfl) (fun _ _ _ h => h) ?_ hHeld ?_
                  rotate_left
                  focus (intro w hSw; (try dsimp only at hSw); go_simp; (try with_reducible rfl); done)
                  go_frame
                  refine tkyQ 28 (some 85) (v := ?_) rfl (by kernel_rfl) (by kernel_rfl) (by kernel_rfl) (fun _ _ _ h => h) ?_ hHeld ?_
                  rotate_left
                  focus (intro w hSw; (try dsimp only at hSw); go_simp; (try with_reducible rfl); done)
                  go_frame
                  refine tkyQ 29 (some 86) (v := ?_) rfl (by kernel_rfl) (by kernel_rfl) (by kernel_rfl) (fun _ _ _ h => h) ?_ hHeld ?_
                  rotate_left
                  focus (intro w hSw; (try dsimp only at hSw); go_simp; (try with_reducible rfl); done)
                  go_frame
                  refine tkyQ 30 (some 87) (v := ?_) rfl (by kernel_rfl) (by kernel_rfl) (by kernel_rfl) (fun _ _ _ h => h) ?_ hHeld ?_
                  rotate_left
                  focus (intro w hSw; (try dsimp only at hSw); go_simp; (try with_reducible rfl); done)
                  go_frame
                  refine tkyQ 31 (some 88) (v := ?_) rfl (by kernel_rfl) (by kernel_rfl) (by kernel_rfl) (fun _ _ _ h => h) ?_ hHeld ?_
                  rotate_left
                  focus (intro w hSw; (try dsimp only at hSw); go_simp; (try with_reducible rfl); done)
                  go_frame
                  refine tkyQ 32 (some 5) (v := ?_) rfl (by kernel_rfl) (by kernel_rfl) (by kernel_rfl) (fun _ _ _ h => h) ?_ hHeld ?_
                  rotate_left
                  focus (intro w hSw; (try dsimp only at hSw); go_simp; (try with_reducible rfl); done)
                  go_frame
                  refine wpAnyH_done (by kernel_rfl) ?_ _
                  go_wp2_with fail
                  go_meet
                  refine ⟨congrArg Value.bool ?_, hHeld⟩
                  ((try rw [P4.out]); (try rw [P5.out]); (try rw [Q4.out]); (try simp only [HBL.out]); (first | rfl | (simp; done)))
                · have Q4 := Lib.hid q4
                  clear q4 q5
                  refine wp_region_held_drew (S := (fun W => W.cell? ⟨w.heap.size, 0, none⟩ = some (.string sc) ∧ W.cell? ⟨w.heap.size, 1, none⟩ = some (.string us) ∧ W.cell? ⟨w.heap.size, 2, none⟩ = some (.string ho) ∧ W.cell? ⟨w.heap.size, 3, none⟩ = some (.string po) ∧ W.cell? ⟨w.heap.size, 4, none⟩ = some (.string pa) ∧ W.cell? ⟨w.heap.size, 5, none⟩ = some (.string qu) ∧ W.cell? ⟨w.heap.size, 6, none⟩ = some (.bool hu) ∧ W.cell? ⟨w.heap.size, 7, none⟩ = some (.bool false) ∧ w.heap.size < W.heap.size ∧ Below w.heap.size w W)) (by kernel_rfl) (KS.drew ⟨a0, a1, a2, a3, a4, a5, a6, a7, hl, hw⟩) (fun hHeld => ?_)
                  refine tkyQ 0 (some 57) (v := ?_) rfl (by kernel_rfl) (by kernel_rfl) (by kernel_rfl) (fun _ _ _ h => h) ?_ hHeld ?_
                  rotate_left
                  focus (intro w hSw; (try dsimp only at hSw); go_simp; (try with_reducible rfl); done)
                  go_frame
                  refine tkyQ 1 (some 58) (v := ?_) rfl (by kernel_rfl) (by kernel_rfl) (by kernel_rfl) (fun _ _ _ h => h) ?_ hHeld ?_
                  rotate_left
                  focus (intro w hSw; (try dsimp only at hSw); go_simp; (try with_reducible rfl); done)
                  go_frame
                  refine rconsQ 2 rfl (by kernel_rfl) (fun K hK => ?_)
                  go_simp
                  refine hK.out _ _ (by first | exact KS.allocd _ hHeld | exact KS.alloc _ hHeld) (fun hHeld2 => ?_)
                  clear hK K hHeld
                  have hHeld := hHeld2
                  clear hHeld2
                  (try go_frame)
                  refine rconsQ 3 rfl (by kernel_rfl) (fun K hK => ?_)
                  go_simp
                  (refine (HO5.out _ _ (by first | exact new_cell _ _ _ _ _ rfl | exact new_celld _ _ _ _ _ rfl) (by first | exact new_cell _ _ _ _ _ rfl | exact new_celld _ _ _ _ _ rfl) (by first | exact new_cell _ _ _ _ _ rfl | exact new_celld _ _ _ _ _ rfl) (by first | exact new_lt _ _ | exact new_ltd _ _)).mono ?_; rintro e w2 ⟨rfl, hb⟩)
                  (try dsimp only)
                  refine hK.out _ _ (KS.below hb hHeld) (fun hHeld2 => ?_)
                  clear hK K hHeld
                  have hHeld := hHeld2
                  clear hHeld2
                  (try go_frame)
                  refine rconsQ 4 rfl (by kernel_rfl) (fun K hK => ?_)
                  go_simp
                  (refine (HM5.out _).mono ?_; rintro e w2 ⟨rfl, hb⟩)
                  (try dsimp only)
                  refine hK.out _ _ (KS.below hb hHeld) (fun hHeld2 => ?_)
                  clear hK K hHeld
                  have hHeld := hHeld2
                  clear hHeld2
                  (try go_frame)
                  refine tkyQ 5 (some 62) (v := ?_) rfl (by kernel_rfl) (by kernel_rfl) (by kernel_rfl) (fun _ _ _ h => h) ?_ hHeld ?_
                  rotate_left
                  focus (intro w hSw; (try dsimp only at hSw); go_simp; (try with_reducible rfl); done)
                  go_frame
                  refine tkyQ 6 (some 63) (v := ?_) rfl (by kernel_rfl) (by kernel_rfl) (by kernel_rfl) (fun _ _ _ h => h) ?_ hHeld ?_
                  rotate_left
                  focus (intro w hSw; (try dsimp only at hSw); go_simp; (try with_reducible rfl); done)
                  go_frame
                  refine tkyQ 7 (some 64) (v := ?_) rfl (by kernel_rfl) (by kernel_rfl) (by kernel_rfl) (fun _ _ _ h => h) ?_ hHeld ?_
                  rotate_left
                  focus (intro w hSw; (try dsimp only at hSw); go_simp; (try with_reducible rfl); done)
                  go_frame
                  refine tkyQ 8 (some 65) (v := ?_) rfl (by kernel_rfl) (by kernel_rfl) (by kernel_rfl) (fun _ _ _ h => h) ?_ hHeld ?_
                  rotate_left
                  focus (intro w hSw; (try dsimp only at hSw); go_simp; (try with_reducible rfl); done)
                  go_frame
                  refine tkyQ 9 (some 66) (v := ?_) rfl (by kernel_rfl) (by kernel_rfl) (by kernel_rfl) (fun _ _ _ h => h) ?_ hHeld ?_
                  rotate_left
                  focus (intro w hSw; (try dsimp only at hSw); go_simp; (try with_reducible rfl); done)
                  go_frame
                  refine tknQ 10 (some 67) rfl (by kernel_rfl) (by kernel_rfl) (by kernel_rfl) (fun _ _ _ h => h) hHeld ?_
                  go_frame
                  refine tknQ 11 (some 68) rfl (by kernel_rfl) (by kernel_rfl) (by kernel_rfl) (fun _ _ _ h => h) hHeld ?_
                  go_frame
                  refine tknQ 12 (some 69) rfl (by kernel_rfl) (by kernel_rfl) (by kernel_rfl) (fun _ _ _ h => h) hHeld ?_
                  go_frame
                  refine tknQ 13 (some 70) rfl (by kernel_rfl) (by kernel_rfl) (by kernel_rfl) (fun _ _ _ h => h) hHeld ?_
                  go_frame
                  refine tkyQ 14 (some 71) (v := ?_) rfl (by kernel_rfl) (by kernel_rfl) (by kernel_rfl) (fun _ _ _ h => h) ?_ hHeld ?_
                  rotate_left
                  focus (intro w hSw; (try dsimp only at hSw); go_simp; (try with_reducible rfl); done)
                  go_frame
                  refine tkyQ 15 (some 72) (v := ?_) rfl (by kernel_rfl) (by kernel_rfl) (by kernel_rfl) (fun _ _ _ h => h) ?_ hHeld ?_
                  rotate_left
                  focus (intro w hSw; (try dsimp only at hSw); go_simp; (try with_reducible rfl); done)
                  go_frame
                  refine tkyQ 16 (some 73) (v := ?_) rfl (by kernel_rfl) (by kernel_rfl) (by kernel_rfl) (fun _ _ _ h => h) ?_ hHeld ?_
                  rotate_left
                  focus (intro w hSw; (try dsimp only at hSw); go_simp; (try with_reducible rfl); done)
                  go_frame
                  refine tkyQ 17 (some 74) (v := ?_) rfl (by kernel_rfl) (by kernel_rfl) (by kernel_rfl) (fun _ _ _ h => h) ?_ hHeld ?_
                  rotate_left
                  focus (intro w hSw; (try dsimp only at hSw); go_simp; (try with_reducible rfl); done)
                  go_frame
                  refine tkyQ 18 (some 75) (v := ?_) rfl (by kernel_rfl) (by kernel_rfl) (by kernel_rfl) (fun _ _ _ h => h) ?_ hHeld ?_
                  rotate_left
                  focus (intro w hSw; (try dsimp only at hSw); go_simp; (try with_reducible rfl); done)
                  go_frame
                  refine rconsQ 19 rfl (by kernel_rfl) (fun K hK => ?_)
                  go_simp
                  refine hK.out _ _ (by first | exact KS.allocd _ hHeld | exact KS.alloc _ hHeld) (fun hHeld2 => ?_)
                  clear hK K hHeld
                  have hHeld := hHeld2
                  clear hHeld2
                  (try go_frame)
                  refine rconsQ 20 rfl (by kernel_rfl) (fun K hK => ?_)
                  go_simp
                  (refine (HO6.out _ _ (by first | exact new_cell _ _ _ _ _ rfl | exact new_celld _ _ _ _ _ rfl) (by first | exact new_cell _ _ _ _ _ rfl | exact new_celld _ _ _ _ _ rfl) (by first | exact new_cell _ _ _ _ _ rfl | exact new_celld _ _ _ _ _ rfl) (by first | exact new_lt _ _ | exact new_ltd _ _)).mono ?_; rintro e w2 ⟨rfl, hb⟩)
                  (try dsimp only)
                  refine hK.out _ _ (KS.below hb hHeld) (fun hHeld2 => ?_)
                  clear hK K hHeld
                  have hHeld := hHeld2
                  clear hHeld2
                  (try go_frame)
                  refine rconsQ 21 rfl (by kernel_rfl) (fun K hK => ?_)
                  go_simp
                  (refine (HM6.out _).mono ?_; rintro e w2 ⟨rfl, hb⟩)
                  (try dsimp only)
                  refine hK.out _ _ (KS.below hb hHeld) (fun hHeld2 => ?_)
                  clear hK K hHeld
                  have hHeld := hHeld2
                  clear hHeld2
                  (try go_frame)
                  refine tkyQ 22 (some 79) (v := ?_) rfl (by kernel_rfl) (by kernel_rfl) (by kernel_rfl) (fun _ _ _ h => h) ?_ hHeld ?_
                  rotate_left
                  focus (intro w hSw; (try dsimp only at hSw); go_simp; (try with_reducible rfl); done)
                  go_frame
                  refine tkyQ 23 (some 80) (v := ?_) rfl (by kernel_rfl) (by kernel_rfl) (by kernel_rfl) (fun _ _ _ h => h) ?_ hHeld ?_
                  rotate_left
                  focus (intro w hSw; (try dsimp only at hSw); go_simp; (try with_reducible rfl); done)
                  go_frame
                  refine tkyQ 24 (some 81) (v := ?_) rfl (by kernel_rfl) (by kernel_rfl) (by kernel_rfl) (fun _ _ _ h => h) ?_ hHeld ?_
                  rotate_left
                  focus (intro w hSw; (try dsimp only at hSw); go_simp; (try with_reducible rfl); done)
                  go_frame
                  refine tkyQ 25 (some 82) (v := ?_) rfl (by kernel_rfl) (by kernel_rfl) (by kernel_rfl) (fun _ _ _ h => h) ?_ hHeld ?_
                  rotate_left
                  focus (intro w hSw; (try dsimp only at hSw); go_simp; (try with_reducible rfl); done)
                  go_frame
                  refine tkyQ 26 (some 83) (v := ?_) rfl (by kernel_rfl) (by kernel_rfl) (by kernel_rfl) (fun _ _ _ h => h) ?_ hHeld ?_
                  rotate_left
                  focus (intro w hSw; (try dsimp only at hSw); go_simp; (try with_reducible rfl); done)
                  go_frame
                  refine tkyQ 27 (some 84) (v := ?_) rfl (by kernel_rfl) (by kernel_rfl) (by kernel_rfl) (fun _ _ _ h => h) ?_ hHeld ?_
                  rotate_left
                  focus (intro w hSw; (try dsimp only at hSw); go_simp; (try with_reducible rfl); done)
                  go_frame
                  refine tkyQ 28 (some 85) (v := ?_) rfl (by kernel_rfl) (by kernel_rfl) (by kernel_rfl) (fun _ _ _ h => h) ?_ hHeld ?_
                  rotate_left
                  focus (intro w hSw; (try dsimp only at hSw); go_simp; (try with_reducible rfl); done)
                  go_frame
                  refine tkyQ 29 (some 86) (v := ?_) rfl (by kernel_rfl) (by kernel_rfl) (by kernel_rfl) (fun _ _ _ h => h) ?_ hHeld ?_
                  rotate_left
                  focus (intro w hSw; (try dsimp only at hSw); go_simp; (try with_reducible rfl); done)
                  go_frame
                  refine tkyQ 30 (some 87) (v := ?_) rfl (by kernel_rfl) (by kernel_rfl) (by kernel_rfl) (fun _ _ _ h => h) ?_ hHeld ?_
                  rotate_left
                  focus (intro w hSw; (try dsimp only at hSw); go_simp; (try with_reducible rfl); done)
                  go_frame
                  refine tkyQ 31 (some 88) (v := ?_) rfl (by kernel_rfl) (by kernel_rfl) (by kernel_rfl) (fun _ _ _ h => h) ?_ hHeld ?_
                  rotate_left
                  focus (intro w hSw; (try dsimp only at hSw); go_simp; (try with_reducible rfl); done)
                  go_frame
                  refine tkyQ 32 (some 5) (v := ?_) rfl (by kernel_rfl) (by kernel_rfl) (by kernel_rfl) (fun _ _ _ h => h) ?_ hHeld ?_
                  rotate_left
                  focus (intro w hSw; (try dsimp only at hSw); go_simp; (try with_reducible rfl); done)
                  go_frame
                  refine wpAnyH_done (by kernel_rfl) ?_ _
                  go_wp2_with fail
                  go_meet
                  refine ⟨congrArg Value.bool ?_, hHeld⟩
                  ((try rw [P4.out]); (try rw [P5.out]); (try rw [Q4.out]); (try simp only [HBL.out]); (first | rfl | (simp; done)))
              · refine wp_region_held_drew (S := (fun W => W.cell? ⟨w.heap.size, 0, none⟩ = some (.string sc) ∧ W.cell? ⟨w.heap.size, 1, none⟩ = some (.string us) ∧ W.cell? ⟨w.heap.size, 2, none⟩ = some (.string ho) ∧ W.cell? ⟨w.heap.size, 3, none⟩ = some (.string po) ∧ W.cell? ⟨w.heap.size, 4, none⟩ = some (.string pa) ∧ W.cell? ⟨w.heap.size, 5, none⟩ = some (.string qu) ∧ W.cell? ⟨w.heap.size, 6, none⟩ = some (.bool hu) ∧ W.cell? ⟨w.heap.size, 7, none⟩ = some (.bool true) ∧ w.heap.size < W.heap.size ∧ Below w.heap.size w W)) (by kernel_rfl) (KS.drew ⟨a0, a1, a2, a3, a4, a5, a6, a7, hl, hw⟩) (fun hHeld => ?_)
                refine tkyQ 0 (some 57) (v := ?_) rfl (by kernel_rfl) (by kernel_rfl) (by kernel_rfl) (fun _ _ _ h => h) ?_ hHeld ?_
                rotate_left
                focus (intro w hSw; (try dsimp only at hSw); go_simp; (try with_reducible rfl); done)
                go_frame
                refine tkyQ 1 (some 58) (v := ?_) rfl (by kernel_rfl) (by kernel_rfl) (by kernel_rfl) (fun _ _ _ h => h) ?_ hHeld ?_
                rotate_left
                focus (intro w hSw; (try dsimp only at hSw); go_simp; (try with_reducible rfl); done)
                go_frame
                refine rconsQ 2 rfl (by kernel_rfl) (fun K hK => ?_)
                go_simp
                refine hK.out _ _ (by first | exact KS.allocd _ hHeld | exact KS.alloc _ hHeld) (fun hHeld2 => ?_)
                clear hK K hHeld
                have hHeld := hHeld2
                clear hHeld2
                (try go_frame)
                refine rconsQ 3 rfl (by kernel_rfl) (fun K hK => ?_)
                go_simp
                (refine (HO5.out _ _ (by first | exact new_cell _ _ _ _ _ rfl | exact new_celld _ _ _ _ _ rfl) (by first | exact new_cell _ _ _ _ _ rfl | exact new_celld _ _ _ _ _ rfl) (by first | exact new_cell _ _ _ _ _ rfl | exact new_celld _ _ _ _ _ rfl) (by first | exact new_lt _ _ | exact new_ltd _ _)).mono ?_; rintro e w2 ⟨rfl, hb⟩)
                (try dsimp only)
                refine hK.out _ _ (KS.below hb hHeld) (fun hHeld2 => ?_)
                clear hK K hHeld
                have hHeld := hHeld2
                clear hHeld2
                (try go_frame)
                refine rconsQ 4 rfl (by kernel_rfl) (fun K hK => ?_)
                go_simp
                (refine (HM5.out _).mono ?_; rintro e w2 ⟨rfl, hb⟩)
                (try dsimp only)
                refine hK.out _ _ (KS.below hb hHeld) (fun hHeld2 => ?_)
                clear hK K hHeld
                have hHeld := hHeld2
                clear hHeld2
                (try go_frame)
                refine tkyQ 5 (some 62) (v := ?_) rfl (by kernel_rfl) (by kernel_rfl) (by kernel_rfl) (fun _ _ _ h => h) ?_ hHeld ?_
                rotate_left
                focus (intro w hSw; (try dsimp only at hSw); go_simp; (try with_reducible rfl); done)
                go_frame
                refine tkyQ 6 (some 63) (v := ?_) rfl (by kernel_rfl) (by kernel_rfl) (by kernel_rfl) (fun _ _ _ h => h) ?_ hHeld ?_
                rotate_left
                focus (intro w hSw; (try dsimp only at hSw); go_simp; (try with_reducible rfl); done)
                go_frame
                refine tkyQ 7 (some 64) (v := ?_) rfl (by kernel_rfl) (by kernel_rfl) (by kernel_rfl) (fun _ _ _ h => h) ?_ hHeld ?_
                rotate_left
                focus (intro w hSw; (try dsimp only at hSw); go_simp; (try with_reducible rfl); done)
                go_frame
                refine tkyQ 8 (some 65) (v := ?_) rfl (by kernel_rfl) (by kernel_rfl) (by kernel_rfl) (fun _ _ _ h => h) ?_ hHeld ?_
                rotate_left
                focus (intro w hSw; (try dsimp only at hSw); go_simp; (try with_reducible rfl); done)
                go_frame
                refine tkyQ 9 (some 66) (v := ?_) rfl (by kernel_rfl) (by kernel_rfl) (by kernel_rfl) (fun _ _ _ h => h) ?_ hHeld ?_
                rotate_left
                focus (intro w hSw; (try dsimp only at hSw); go_simp; (try with_reducible rfl); done)
                go_frame
                refine tknQ 10 (some 67) rfl (by kernel_rfl) (by kernel_rfl) (by kernel_rfl) (fun _ _ _ h => h) hHeld ?_
                go_frame
                refine tknQ 11 (some 68) rfl (by kernel_rfl) (by kernel_rfl) (by kernel_rfl) (fun _ _ _ h => h) hHeld ?_
                go_frame
                refine tknQ 12 (some 69) rfl (by kernel_rfl) (by kernel_rfl) (by kernel_rfl) (fun _ _ _ h => h) hHeld ?_
                go_frame
                refine tknQ 13 (some 70) rfl (by kernel_rfl) (by kernel_rfl) (by kernel_rfl) (fun _ _ _ h => h) hHeld ?_
                go_frame
                refine tkyQ 14 (some 71) (v := ?_) rfl (by kernel_rfl) (by kernel_rfl) (by kernel_rfl) (fun _ _ _ h => h) ?_ hHeld ?_
                rotate_left
                focus (intro w hSw; (try dsimp only at hSw); go_simp; (try with_reducible rfl); done)
                go_frame
                refine tkyQ 15 (some 72) (v := ?_) rfl (by kernel_rfl) (by kernel_rfl) (by kernel_rfl) (fun _ _ _ h => h) ?_ hHeld ?_
                rotate_left
                focus (intro w hSw; (try dsimp only at hSw); go_simp; (try with_reducible rfl); done)
                go_frame
                refine tkyQ 16 (some 73) (v := ?_) rfl (by kernel_rfl) (by kernel_rfl) (by kernel_rfl) (fun _ _ _ h => h) ?_ hHeld ?_
                rotate_left
                focus (intro w hSw; (try dsimp only at hSw); go_simp; (try with_reducible rfl); done)
                go_frame
                refine tkyQ 17 (some 74) (v := ?_) rfl (by kernel_rfl) (by kernel_rfl) (by kernel_rfl) (fun _ _ _ h => h) ?_ hHeld ?_
                rotate_left
                focus (intro w hSw; (try dsimp only at hSw); go_simp; (try with_reducible rfl); done)
                go_frame
                refine tkyQ 18 (some 75) (v := ?_) rfl (by kernel_rfl) (by kernel_rfl) (by kernel_rfl) (fun _ _ _ h => h) ?_ hHeld ?_
                rotate_left
                focus (intro w hSw; (try dsimp only at hSw); go_simp; (try with_reducible rfl); done)
                go_frame
                refine rconsQ 19 rfl (by kernel_rfl) (fun K hK => ?_)
                go_simp
                refine hK.out _ _ (by first | exact KS.allocd _ hHeld | exact KS.alloc _ hHeld) (fun hHeld2 => ?_)
                clear hK K hHeld
                have hHeld := hHeld2
                clear hHeld2
                (try go_frame)
                refine rconsQ 20 rfl (by kernel_rfl) (fun K hK => ?_)
                go_simp
                (refine (HO6.out _ _ (by first | exact new_cell _ _ _ _ _ rfl | exact new_celld _ _ _ _ _ rfl) (by first | exact new_cell _ _ _ _ _ rfl | exact new_celld _ _ _ _ _ rfl) (by first | exact new_cell _ _ _ _ _ rfl | exact new_celld _ _ _ _ _ rfl) (by first | exact new_lt _ _ | exact new_ltd _ _)).mono ?_; rintro e w2 ⟨rfl, hb⟩)
                (try dsimp only)
                refine hK.out _ _ (KS.below hb hHeld) (fun hHeld2 => ?_)
                clear hK K hHeld
                have hHeld := hHeld2
                clear hHeld2
                (try go_frame)
                refine rconsQ 21 rfl (by kernel_rfl) (fun K hK => ?_)
                go_simp
                (refine (HM6.out _).mono ?_; rintro e w2 ⟨rfl, hb⟩)
                (try dsimp only)
                refine hK.out _ _ (KS.below hb hHeld) (fun hHeld2 => ?_)
                clear hK K hHeld
                have hHeld := hHeld2
                clear hHeld2
                (try go_frame)
                refine tkyQ 22 (some 79) (v := ?_) rfl (by kernel_rfl) (by kernel_rfl) (by kernel_rfl) (fun _ _ _ h => h) ?_ hHeld ?_
                rotate_left
                focus (intro w hSw; (try dsimp only at hSw); go_simp; (try with_reducible rfl); done)
                go_frame
                refine tkyQ 23 (some 80) (v := ?_) rfl (by kernel_rfl) (by kernel_rfl) (by kernel_rfl) (fun _ _ _ h => h) ?_ hHeld ?_
                rotate_left
                focus (intro w hSw; (try dsimp only at hSw); go_simp; (try with_reducible rfl); done)
                go_frame
                refine tkyQ 24 (some 81) (v := ?_) rfl (by kernel_rfl) (by kernel_rfl) (by kernel_rfl) (fun _ _ _ h => h) ?_ hHeld ?_
                rotate_left
                focus (intro w hSw; (try dsimp only at hSw); go_simp; (try with_reducible rfl); done)
                go_frame
                refine tkyQ 25 (some 82) (v := ?_) rfl (by kernel_rfl) (by kernel_rfl) (by kernel_rfl) (fun _ _ _ h => h) ?_ hHeld ?_
                rotate_left
                focus (intro w hSw; (try dsimp only at hSw); go_simp; (try with_reducible rfl); done)
                go_frame
                refine tkyQ 26 (some 83) (v := ?_) rfl (by kernel_rfl) (by kernel_rfl) (by kernel_rfl) (fun _ _ _ h => h) ?_ hHeld ?_
                rotate_left
                focus (intro w hSw; (try dsimp only at hSw); go_simp; (try with_reducible rfl); done)
                go_frame
                refine tknQ 27 (some 84) rfl (by kernel_rfl) (by kernel_rfl) (by kernel_rfl) (fun _ _ _ h => h) hHeld ?_
                go_frame
                refine tknQ 28 (some 85) rfl (by kernel_rfl) (by kernel_rfl) (by kernel_rfl) (fun _ _ _ h => h) hHeld ?_
                go_frame
                refine tknQ 29 (some 86) rfl (by kernel_rfl) (by kernel_rfl) (by kernel_rfl) (fun _ _ _ h => h) hHeld ?_
                go_frame
                refine tkyQ 30 (some 87) (v := ?_) rfl (by kernel_rfl) (by kernel_rfl) (by kernel_rfl) (fun _ _ _ h => h) ?_ hHeld ?_
                rotate_left
                focus (intro w hSw; (try dsimp only at hSw); go_simp; (try with_reducible rfl); done)
                go_frame
                refine tkyQ 31 (some 88) (v := ?_) rfl (by kernel_rfl) (by kernel_rfl) (by kernel_rfl) (fun _ _ _ h => h) ?_ hHeld ?_
                rotate_left
                focus (intro w hSw; (try dsimp only at hSw); go_simp; (try with_reducible rfl); done)
                go_frame
                refine tkyQ 32 (some 5) (v := ?_) rfl (by kernel_rfl) (by kernel_rfl) (by kernel_rfl) (fun _ _ _ h => h) ?_ hHeld ?_
                rotate_left
                focus (intro w hSw; (try dsimp only at hSw); go_simp; (try with_reducible rfl); done)
                go_frame
                refine wpAnyH_done (by kernel_rfl) ?_ _
                go_wp2_with fail
                go_meet
                refine ⟨congrArg Value.bool ?_, hHeld⟩
                ((try rw [P4.out]); (try rw [P5.out]); (try rw [Q4.out]); (try simp only [HBL.out]); (first | rfl | (simp; done)))
          · have P4 := Lib.hid p4
            have P5 := Lib.hid p5
            clear p4 p5
            by_cases hx : (pa[0].toNat : Int) = 47
            · have hx2 : (some pa[0] == some 47) = true := by
                have : pa[0] = 47 := UInt8.toNat_inj.mp (by have : pa[0].toNat = 47 := by omega
                                                            rw [this]; rfl)
                rw [this]; rfl
              have HBL := Lib.hid hx2
              clear hx2
              cases b6
              · refine wp_region_held_drew (S := (fun W => W.cell? ⟨w.heap.size, 0, none⟩ = some (.string sc) ∧ W.cell? ⟨w.heap.size, 1, none⟩ = some (.string us) ∧ W.cell? ⟨w.heap.size, 2, none⟩ = some (.string ho) ∧ W.cell? ⟨w.heap.size, 3, none⟩ = some (.string po) ∧ W.cell? ⟨w.heap.size, 4, none⟩ = some (.string pa) ∧ W.cell? ⟨w.heap.size, 5, none⟩ = some (.string qu) ∧ W.cell? ⟨w.heap.size, 6, none⟩ = some (.bool hu) ∧ W.cell? ⟨w.heap.size, 7, none⟩ = some (.bool hq) ∧ w.heap.size < W.heap.size ∧ Below w.heap.size w W)) (by kernel_rfl) (KS.drew ⟨a0, a1, a2, a3, a4, a5, a6, a7, hl, hw⟩) (fun hHeld => ?_)
                refine tkyQ 0 (some 57) (v := ?_) rfl (by kernel_rfl) (by kernel_rfl) (by kernel_rfl) (fun _ _ _ h => h) ?_ hHeld ?_
                rotate_left
                focus (intro w hSw; (try dsimp only at hSw); go_simp; (try with_reducible rfl); done)
                go_frame
                refine tkyQ 1 (some 58) (v := ?_) rfl (by kernel_rfl) (by kernel_rfl) (by kernel_rfl) (fun _ _ _ h => h) ?_ hHeld ?_
                rotate_left
                focus (intro w hSw; (try dsimp only at hSw); go_simp; (try with_reducible rfl); done)
                go_frame
                refine rconsQ 2 rfl (by kernel_rfl) (fun K hK => ?_)
                go_simp
                refine hK.out _ _ (by first | exact KS.allocd _ hHeld | exact KS.alloc _ hHeld) (fun hHeld2 => ?_)
                clear hK K hHeld
                have hHeld := hHeld2
                clear hHeld2
                (try go_frame)
                refine rconsQ 3 rfl (by kernel_rfl) (fun K hK => ?_)
                go_simp
                (refine (HO5.out _ _ (by first | exact new_cell _ _ _ _ _ rfl | exact new_celld _ _ _ _ _ rfl) (by first | exact new_cell _ _ _ _ _ rfl | exact new_celld _ _ _ _ _ rfl) (by first | exact new_cell _ _ _ _ _ rfl | exact new_celld _ _ _ _ _ rfl) (by first | exact new_lt _ _ | exact new_ltd _ _)).mono ?_; rintro e w2 ⟨rfl, hb⟩)
                (try dsimp only)
                refine hK.out _ _ (KS.below hb hHeld) (fun hHeld2 => ?_)
                clear hK K hHeld
                have hHeld := hHeld2
                clear hHeld2
                (try go_frame)
                refine rconsQ 4 rfl (by kernel_rfl) (fun K hK => ?_)
                go_simp
                (refine (HM5.out _).mono ?_; rintro e w2 ⟨rfl, hb⟩)
                (try dsimp only)
                refine hK.out _ _ (KS.below hb hHeld) (fun hHeld2 => ?_)
                clear hK K hHeld
                have hHeld := hHeld2
                clear hHeld2
                (try go_frame)
                refine tkyQ 5 (some 62) (v := ?_) rfl (by kernel_rfl) (by kernel_rfl) (by kernel_rfl) (fun _ _ _ h => h) ?_ hHeld ?_
                rotate_left
                focus (intro w hSw; (try dsimp only at hSw); go_simp; (try with_reducible rfl); done)
                go_frame
                refine tkyQ 6 (some 63) (v := ?_) rfl (by kernel_rfl) (by kernel_rfl) (by kernel_rfl) (fun _ _ _ h => h) ?_ hHeld ?_
                rotate_left
                focus (intro w hSw; (try dsimp only at hSw); go_simp; (try with_reducible rfl); done)
                go_frame
                refine tkyQ 7 (some 64) (v := ?_) rfl (by kernel_rfl) (by kernel_rfl) (by kernel_rfl) (fun _ _ _ h => h) ?_ hHeld ?_
                rotate_left
                focus (intro w hSw; (try dsimp only at hSw); go_simp; (try with_reducible rfl); done)
                go_frame
                refine tkyQ 8 (some 65) (v := ?_) rfl (by kernel_rfl) (by kernel_rfl) (by kernel_rfl) (fun _ _ _ h => h) ?_ hHeld ?_
                rotate_left
                focus (intro w hSw; (try dsimp only at hSw); go_simp; (try with_reducible rfl); done)
                go_frame
                refine tkyQ 9 (some 66) (v := ?_) rfl (by kernel_rfl) (by kernel_rfl) (by kernel_rfl) (fun _ _ _ h => h) ?_ hHeld ?_
                rotate_left
                focus (intro w hSw; (try dsimp only at hSw); go_simp; (try with_reducible rfl); done)
                go_frame
                refine tkyQ 10 (some 67) (v := ?_) rfl (by kernel_rfl) (by kernel_rfl) (by kernel_rfl) (fun _ _ _ h => h) ?_ hHeld ?_
                rotate_left
                focus (intro w hSw; (try dsimp only at hSw); go_simp; (try with_reducible rfl); done)
                go_frame
                refine tkyQ 11 (some 68) (v := ?_) rfl (by kernel_rfl) (by kernel_rfl) (by kernel_rfl) (fun _ _ _ h => h) ?_ hHeld ?_
                rotate_left
                focus (intro w hSw; (try dsimp only at hSw); go_simp; (try with_reducible rfl); done)
                go_frame
                refine tkyQ 12 (some 69) (v := ?_) rfl (by kernel_rfl) (by kernel_rfl) (by kernel_rfl) (fun _ _ _ h => h) ?_ hHeld ?_
                rotate_left
                focus (intro w hSw; (try dsimp only at hSw); go_simp; (try with_reducible rfl); done)
                go_frame
                refine tkyQ 13 (some 70) (v := ?_) rfl (by kernel_rfl) (by kernel_rfl) (by kernel_rfl) (fun _ _ _ h => h) ?_ hHeld ?_
                rotate_left
                focus (intro w hSw; (try dsimp only at hSw); go_simp; (try with_reducible rfl); done)
                go_frame
                refine tkyQ 14 (some 71) (v := ?_) rfl (by kernel_rfl) (by kernel_rfl) (by kernel_rfl) (fun _ _ _ h => h) ?_ hHeld ?_
                rotate_left
                focus (intro w hSw; (try dsimp only at hSw); go_simp; (try with_reducible rfl); done)
                go_frame
                refine tkyQ 15 (some 72) (v := ?_) rfl (by kernel_rfl) (by kernel_rfl) (by kernel_rfl) (fun _ _ _ h => h) ?_ hHeld ?_
                rotate_left
                focus (intro w hSw; (try dsimp only at hSw); go_simp; (try with_reducible rfl); done)
                go_frame
                refine tkyQ 16 (some 73) (v := ?_) rfl (by kernel_rfl) (by kernel_rfl) (by kernel_rfl) (fun _ _ _ h => h) ?_ hHeld ?_
                rotate_left
                focus (intro w hSw; (try dsimp only at hSw); go_simp; (try with_reducible rfl); done)
                go_frame
                refine tkyQ 17 (some 74) (v := ?_) rfl (by kernel_rfl) (by kernel_rfl) (by kernel_rfl) (fun _ _ _ h => h) ?_ hHeld ?_
                rotate_left
                focus (intro w hSw; (try dsimp only at hSw); go_simp; (try with_reducible rfl); done)
                go_frame
                refine tkyQ 18 (some 75) (v := ?_) rfl (by kernel_rfl) (by kernel_rfl) (by kernel_rfl) (fun _ _ _ h => h) ?_ hHeld ?_
                rotate_left
                focus (intro w hSw; (try dsimp only at hSw); go_simp; (try with_reducible rfl); done)
                go_frame
                refine rconsQ 19 rfl (by kernel_rfl) (fun K hK => ?_)
                go_simp
                refine hK.out _ _ (by first | exact KS.allocd _ hHeld | exact KS.alloc _ hHeld) (fun hHeld2 => ?_)
                clear hK K hHeld
                have hHeld := hHeld2
                clear hHeld2
                (try go_frame)
                refine rconsQ 20 rfl (by kernel_rfl) (fun K hK => ?_)
                go_simp
                (refine (HO6.out _ _ (by first | exact new_cell _ _ _ _ _ rfl | exact new_celld _ _ _ _ _ rfl) (by first | exact new_cell _ _ _ _ _ rfl | exact new_celld _ _ _ _ _ rfl) (by first | exact new_cell _ _ _ _ _ rfl | exact new_celld _ _ _ _ _ rfl) (by first | exact new_lt _ _ | exact new_ltd _ _)).mono ?_; rintro e w2 ⟨rfl, hb⟩)
                (try dsimp only)
                refine hK.out _ _ (KS.below hb hHeld) (fun hHeld2 => ?_)
                clear hK K hHeld
                have hHeld := hHeld2
                clear hHeld2
                (try go_frame)
                refine rconsQ 21 rfl (by kernel_rfl) (fun K hK => ?_)
                go_simp
                (refine (HM6.out _).mono ?_; rintro e w2 ⟨rfl, hb⟩)
                (try dsimp only)
                refine hK.out _ _ (KS.below hb hHeld) (fun hHeld2 => ?_)
                clear hK K hHeld
                have hHeld := hHeld2
                clear hHeld2
                (try go_frame)
                refine tkyQ 22 (some 79) (v := ?_) rfl (by kernel_rfl) (by kernel_rfl) (by kernel_rfl) (fun _ _ _ h => h) ?_ hHeld ?_
                rotate_left
                focus (intro w hSw; (try dsimp only at hSw); go_simp; (try with_reducible rfl); done)
                go_frame
                refine tkyQ 23 (some 80) (v := ?_) rfl (by kernel_rfl) (by kernel_rfl) (by kernel_rfl) (fun _ _ _ h => h) ?_ hHeld ?_
                rotate_left
                focus (intro w hSw; (try dsimp only at hSw); go_simp; (try with_reducible rfl); done)
                go_frame
                refine tknQ 24 (some 81) rfl (by kernel_rfl) (by kernel_rfl) (by kernel_rfl) (fun _ _ _ h => h) hHeld ?_
                go_frame
                refine tknQ 25 (some 82) rfl (by kernel_rfl) (by kernel_rfl) (by kernel_rfl) (fun _ _ _ h => h) hHeld ?_
                go_frame
                refine tknQ 26 (some 83) rfl (by kernel_rfl) (by kernel_rfl) (by kernel_rfl) (fun _ _ _ h => h) hHeld ?_
                go_frame
                refine tknQ 27 (some 84) rfl (by kernel_rfl) (by kernel_rfl) (by kernel_rfl) (fun _ _ _ h => h) hHeld ?_
                go_frame
                refine tknQ 28 (some 85) rfl (by kernel_rfl) (by kernel_rfl) (by kernel_rfl) (fun _ _ _ h => h) hHeld ?_
                go_frame
                refine tknQ 29 (some 86) rfl (by kernel_rfl) (by kernel_rfl) (by kernel_rfl) (fun _ _ _ h => h) hHeld ?_
                go_frame
                refine tknQ 30 (some 87) rfl (by kernel_rfl) (by kernel_rfl) (by kernel_rfl) (fun _ _ _ h => h) hHeld ?_
                go_frame
                refine tkyQ 31 (some 88) (v := ?_) rfl (by kernel_rfl) (by kernel_rfl) (by kernel_rfl) (fun _ _ _ h => h) ?_ hHeld ?_
                rotate_left
                focus (intro w hSw; (try dsimp only at hSw); go_simp; (try with_reducible rfl); done)
                go_frame
                refine tkyQ 32 (some 5) (v := ?_) rfl (by kernel_rfl) (by kernel_rfl) (by kernel_rfl) (fun _ _ _ h => h) ?_ hHeld ?_
                rotate_left
                focus (intro w hSw; (try dsimp only at hSw); go_simp; (try with_reducible rfl); done)
                go_frame
                refine wpAnyH_done (by kernel_rfl) ?_ _
                go_wp2_with fail
                go_meet
                refine ⟨congrArg Value.bool ?_, hHeld⟩
                ((try rw [P4.out]); (try rw [P5.out]); (try rw [Q4.out]); (try simp only [HBL.out]); (first | rfl | (simp; done)))
              · cases hq
                · rcases first_cases qu with ⟨q1, q2, q3, q4⟩ | ⟨q1, q2, q3, q4, q5⟩
                  · have Q4 := Lib.hid q4
                    clear q4
                    refine wp_region_held_drew (S := (fun W => W.cell? ⟨w.heap.size, 0, none⟩ = some (.string sc) ∧ W.cell? ⟨w.heap.size, 1, none⟩ = some (.string us) ∧ W.cell? ⟨w.heap.size, 2, none⟩ = some (.string ho) ∧ W.cell? ⟨w.heap.size, 3, none⟩ = some (.string po) ∧ W.cell? ⟨w.heap.size, 4, none⟩ = some (.string pa) ∧ W.cell? ⟨w.heap.size, 5, none⟩ = some (.string qu) ∧ W.cell? ⟨w.heap.size, 6, none⟩ = some (.bool hu) ∧ W.cell? ⟨w.heap.size, 7, none⟩ = some (.bool false) ∧ w.heap.size < W.heap.size ∧ Below w.heap.size w W)) (by kernel_rfl) (KS.drew ⟨a0, a1, a2, a3, a4, a5, a6, a7, hl, hw⟩) (fun hHeld => ?_)
                    refine tkyQ 0 (some 57) (v := ?_) rfl (by kernel_rfl) (by kernel_rfl) (by kernel_rfl) (fun _ _ _ h => h) ?_ hHeld ?_
                    rotate_left
                    focus (intro w hSw; (try dsimp only at hSw); go_simp; (try with_reducible rfl); done)
                    go_frame
                    refine tkyQ 1 (some 58) (v := ?_) rfl (by kernel_rfl) (by kernel_rfl) (by kernel_rfl) (fun _ _ _ h => h) ?_ hHeld ?_
                    rotate_left
                    focus (intro w hSw; (try dsimp only at hSw); go_simp; (try with_reducible rfl); done)
                    go_frame
                    refine rconsQ 2 rfl (by kernel_rfl) (fun K hK => ?_)
                    go_simp
                    refine hK.out _ _ (by first | exact KS.allocd _ hHeld | exact KS.alloc _ hHeld) (fun hHeld2 => ?_)
                    clear hK K hHeld
                    have hHeld := hHeld2
                    clear hHeld2
                    (try go_frame)
                    refine rconsQ 3 rfl (by kernel_rfl) (fun K hK => ?_)
                    go_simp
                    (refine (HO5.out _ _ (by first | exact new_cell _ _ _ _ _ rfl | exact new_celld _ _ _ _ _ rfl) (by first | exact new_cell _ _ _ _ _ rfl | exact new_celld _ _ _ _ _ rfl) (by first | exact new_cell _ _ _ _ _ rfl | exact new_celld _ _ _ _ _ rfl) (by first | exact new_lt _ _ | exact new_ltd _ _)).mono ?_; rintro e w2 ⟨rfl, hb⟩)
                    (try dsimp only)
                    refine hK.out _ _ (KS.below hb hHeld) (fun hHeld2 => ?_)
                    clear hK K hHeld
                    have hHeld := hHeld2
                    clear hHeld2
                    (try go_frame)
                    refine rconsQ 4 rfl (by kernel_rfl) (fun K hK => ?_)
                    go_simp
                    (refine (HM5.out _).mono ?_; rintro e w2 ⟨rfl, hb⟩)
                    (try dsimp only)
                    refine hK.out _ _ (KS.below hb hHeld) (fun hHeld2 => ?_)
                    clear hK K hHeld
                    have hHeld := hHeld2
                    clear hHeld2
                    (try go_frame)
                    refine tkyQ 5 (some 62) (v := ?_) rfl (by kernel_rfl) (by kernel_rfl) (by kernel_rfl) (fun _ _ _ h => h) ?_ hHeld ?_
                    rotate_left
                    focus (intro w hSw; (try dsimp only at hSw); go_simp; (try with_reducible rfl); done)
                    go_frame
                    refine tkyQ 6 (some 63) (v := ?_) rfl (by kernel_rfl) (by kernel_rfl) (by kernel_rfl) (fun _ _ _ h => h) ?_ hHeld ?_
                    rotate_left
                    focus (intro w hSw; (try dsimp only at hSw); go_simp; (try with_reducible rfl); done)
                    go_frame
                    refine tkyQ 7 (some 64) (v := ?_) rfl (by kernel_rfl) (by kernel_rfl) (by kernel_rfl) (fun _ _ _ h => h) ?_ hHeld ?_
                    rotate_left
                    focus (intro w hSw; (try dsimp only at hSw); go_simp; (try with_reducible rfl); done)
                    go_frame
                    refine tkyQ 8 (some 65) (v := ?_) rfl (by kernel_rfl) (by kernel_rfl) (by kernel_rfl) (fun _ _ _ h => h) ?_ hHeld ?_
                    rotate_left
                    focus (intro w hSw; (try dsimp only at hSw); go_simp; (try with_reducible rfl); done)
                    go_frame
                    refine tkyQ 9 (some 66) (v := ?_) rfl (by kernel_rfl) (by kernel_rfl) (by kernel_rfl) (fun _ _ _ h => h) ?_ hHeld ?_
                    rotate_left
                    focus (intro w hSw; (try dsimp only at hSw); go_simp; (try with_reducible rfl); done)
                    go_frame
                    refine tkyQ 10 (some 67) (v := ?_) rfl (by kernel_rfl) (by kernel_rfl) (by kernel_rfl) (fun _ _ _ h => h) ?_ hHeld ?_
                    rotate_left
                    focus (intro w hSw; (try dsimp only at hSw); go_simp; (try with_reducible rfl); done)
                    go_frame
                    refine tkyQ 11 (some 68) (v := ?_) rfl (by kernel_rfl) (by kernel_rfl) (by kernel_rfl) (fun _ _ _ h => h) ?_ hHeld ?_
                    rotate_left
                    focus (intro w hSw; (try dsimp only at hSw); go_simp; (try with_reducible rfl); done)
                    go_frame
                    refine tkyQ 12 (some 69) (v := ?_) rfl (by kernel_rfl) (by kernel_rfl) (by kernel_rfl) (fun _ _ _ h => h) ?_ hHeld ?_
                    rotate_left
                    focus (intro w hSw; (try dsimp only at hSw); go_simp; (try with_reducible rfl); done)
                    go_frame
                    refine tkyQ 13 (some 70) (v := ?_) rfl (by kernel_rfl) (by kernel_rfl) (by kernel_rfl) (fun _ _ _ h => h) ?_ hHeld ?_
                    rotate_left
                    focus (intro w hSw; (try dsimp only at hSw); go_simp; (try with_reducible rfl); done)
                    go_frame
                    refine tkyQ 14 (some 71) (v := ?_) rfl (by kernel_rfl) (by kernel_rfl) (by kernel_rfl) (fun _ _ _ h => h) ?_ hHeld ?_
                    rotate_left
                    focus (intro w hSw; (try dsimp only at hSw); go_simp; (try with_reducible rfl); done)
                    go_frame
                    refine tkyQ 15 (some 72) (v := ?_) rfl (by kernel_rfl) (by kernel_rfl) (by kernel_rfl) (fun _ _ _ h => h) ?_ hHeld ?_
                    rotate_left
                    focus (intro w hSw; (try dsimp only at hSw); go_simp; (try with_reducible rfl); done)
                    go_frame
                    refine tkyQ 16 (some 73) (v := ?_) rfl (by kernel_rfl) (by kernel_rfl) (by kernel_rfl) (fun _ _ _ h => h) ?_ hHeld ?_
                    rotate_left
                    focus (intro w hSw; (try dsimp only at hSw); go_simp; (try with_reducible rfl); done)
                    go_frame
                    refine tkyQ 17 (some 74) (v := ?_) rfl (by kernel_rfl) (by kernel_rfl) (by kernel_rfl) (fun _ _ _ h => h) ?_ hHeld ?_
                    rotate_left
                    focus (intro w hSw; (try dsimp only at hSw); go_simp; (try with_reducible rfl); done)
                    go_frame
                    refine tkyQ 18 (some 75) (v := ?_) rfl (by kernel_rfl) (by kernel_rfl) (by kernel_rfl) (fun _ _ _ h => h) ?_ hHeld ?_
                    rotate_left
                    focus (intro w hSw; (try dsimp only at hSw); go_simp; (try with_reducible rfl); done)
                    go_frame
                    refine rconsQ 19 rfl (by kernel_rfl) (fun K hK => ?_)
                    go_simp
                    refine hK.out _ _ (by first | exact KS.allocd _ hHeld | exact KS.alloc _ hHeld) (fun hHeld2 => ?_)
                    clear hK K hHeld
                    have hHeld := hHeld2
                    clear hHeld2
                    (try go_frame)
                    refine rconsQ 20 rfl (by kernel_rfl) (fun K hK => ?_)
                    go_simp
                    (refine (HO6.out _ _ (by first | exact new_cell _ _ _ _ _ rfl | exact new_celld _ _ _ _ _ rfl) (by first | exact new_cell _ _ _ _ _ rfl | exact new_celld _ _ _ _ _ rfl) (by first | exact new_cell _ _ _ _ _ rfl | exact new_celld _ _ _ _ _ rfl) (by first | exact new_lt _ _ | exact new_ltd _ _)).mono ?_; rintro e w2 ⟨rfl, hb⟩)
                    (try dsimp only)
                    refine hK.out _ _ (KS.below hb hHeld) (fun hHeld2 => ?_)
                    clear hK K hHeld
                    have hHeld := hHeld2
                    clear hHeld2
                    (try go_frame)
                    refine rconsQ 21 rfl (by kernel_rfl) (fun K hK => ?_)
                    go_simp
                    (refine (HM6.out _).mono ?_; rintro e w2 ⟨rfl, hb⟩)
                    (try dsimp only)
                    refine hK.out _ _ (KS.below hb hHeld) (fun hHeld2 => ?_)
                    clear hK K hHeld
                    have hHeld := hHeld2
                    clear hHeld2
                    (try go_frame)
                    refine tkyQ 22 (some 79) (v := ?_) rfl (by kernel_rfl) (by kernel_rfl) (by kernel_rfl) (fun _ _ _ h => h) ?_ hHeld ?_
                    rotate_left
                    focus (intro w hSw; (try dsimp only at hSw); go_simp; (try with_reducible rfl); done)
                    go_frame
                    refine tkyQ 23 (some 80) (v := ?_) rfl (by kernel_rfl) (by kernel_rfl) (by kernel_rfl) (fun _ _ _ h => h) ?_ hHeld ?_
                    rotate_left
                    focus (intro w hSw; (try dsimp only at hSw); go_simp; (try with_reducible rfl); done)
                    go_frame
                    refine tkyQ 24 (some 81) (v := ?_) rfl (by kernel_rfl) (by kernel_rfl) (by kernel_rfl) (fun _ _ _ h => h) ?_ hHeld ?_
                    rotate_left
                    focus (intro w hSw; (try dsimp only at hSw); go_simp; (try with_reducible rfl); done)
                    go_frame
                    refine tkyQ 25 (some 82) (v := ?_) rfl (by kernel_rfl) (by kernel_rfl) (by kernel_rfl) (fun _ _ _ h => h) ?_ hHeld ?_
                    rotate_left
                    focus (intro w hSw; (try dsimp only at hSw); go_simp; (try with_reducible rfl); done)
                    go_frame
                    refine tkyQ 26 (some 83) (v := ?_) rfl (by kernel_rfl) (by kernel_rfl) (by kernel_rfl) (fun _ _ _ h => h) ?_ hHeld ?_
                    rotate_left
                    focus (intro w hSw; (try dsimp only at hSw); go_simp; (try with_reducible rfl); done)
                    go_frame
                    refine tkyQ 27 (some 84) (v := ?_) rfl (by kernel_rfl) (by kernel_rfl) (by kernel_rfl) (fun _ _ _ h => h) ?_ hHeld ?_
                    rotate_left
                    focus (intro w hSw; (try dsimp only at hSw); go_simp; (try with_reducible rfl); done)
                    go_frame
                    refine tkyQ 28 (some 85) (v := ?_) rfl (by kernel_rfl) (by kernel_rfl) (by kernel_rfl) (fun _ _ _ h => h) ?_ hHeld ?_
                    rotate_left
                    focus (intro w hSw; (try dsimp only at hSw); go_simp; (try with_reducible rfl); done)
                    go_frame
                    refine tkyQ 29 (some 86) (v := ?_) rfl (by kernel_rfl) (by kernel_rfl) (by kernel_rfl) (fun _ _ _ h => h) ?_ hHeld ?_
                    rotate_left
                    focus (intro w hSw; (try dsimp only at hSw); go_simp; (try with_reducible rfl); done)
                    go_frame
                    refine tkyQ 30 (some 87) (v := ?_) rfl (by kernel_rfl) (by kernel_rfl) (by kernel_rfl) (fun _ _ _ h => h) ?_ hHeld ?_
                    rotate_left
                    focus (intro w hSw; (try dsimp only at hSw); go_simp; (try with_reducible rfl); done)
                    go_frame
                    refine tkyQ 31 (some 88) (v := ?_) rfl (by kernel_rfl) (by kernel_rfl) (by kernel_rfl) (fun _ _ _ h => h) ?_ hHeld ?_
                    rotate_left
                    focus (intro w hSw; (try dsimp only at hSw); go_simp; (try with_reducible rfl); done)
                    go_frame
                    refine tkyQ 32 (some 5) (v := ?_) rfl (by kernel_rfl) (by kernel_rfl) (by kernel_rfl) (fun _ _ _ h => h) ?_ hHeld ?_
                    rotate_left
                    focus (intro w hSw; (try dsimp only at hSw); go_simp; (try with_reducible rfl); done)
                    go_frame
                    refine wpAnyH_done (by kernel_rfl) ?_ _
                    go_wp2_with fail
                    go_meet
                    refine ⟨congrArg Value.bool ?_, hHeld⟩
                    ((try rw [P4.out]); (try rw [P5.out]); (try rw [Q4.out]); (try simp only [HBL.out]); (first | rfl | (simp; done)))
                  · have Q4 := Lib.hid q4
                    clear q4 q5
                    refine wp_region_held_drew (S := (fun W => W.cell? ⟨w.heap.size, 0, none⟩ = some (.string sc) ∧ W.cell? ⟨w.heap.size, 1, none⟩ = some (.string us) ∧ W.cell? ⟨w.heap.size, 2, none⟩ = some (.string ho) ∧ W.cell? ⟨w.heap.size, 3, none⟩ = some (.string po) ∧ W.cell? ⟨w.heap.size, 4, none⟩ = some (.string pa) ∧ W.cell? ⟨w.heap.size, 5, none⟩ = some (.string qu) ∧ W.cell? ⟨w.heap.size, 6, none⟩ = some (.bool hu) ∧ W.cell? ⟨w.heap.size, 7, none⟩ = some (.bool false) ∧ w.heap.size < W.heap.size ∧ Below w.heap.size w W)) (by kernel_rfl) (KS.drew ⟨a0, a1, a2, a3, a4, a5, a6, a7, hl, hw⟩) (fun hHeld => ?_)
                    refine tkyQ 0 (some 57) (v := ?_) rfl (by kernel_rfl) (by kernel_rfl) (by kernel_rfl) (fun _ _ _ h => h) ?_ hHeld ?_
                    rotate_left
                    focus (intro w hSw; (try dsimp only at hSw); go_simp; (try with_reducible rfl); done)
                    go_frame
                    refine tkyQ 1 (some 58) (v := ?_) rfl (by kernel_rfl) (by kernel_rfl) (by kernel_rfl) (fun _ _ _ h => h) ?_ hHeld ?_
                    rotate_left
                    focus (intro w hSw; (try dsimp only at hSw); go_simp; (try with_reducible rfl); done)
                    go_frame
                    refine rconsQ 2 rfl (by kernel_rfl) (fun K hK => ?_)
                    go_simp
                    refine hK.out _ _ (by first | exact KS.allocd _ hHeld | exact KS.alloc _ hHeld) (fun hHeld2 => ?_)
                    clear hK K hHeld
                    have hHeld := hHeld2
                    clear hHeld2
                    (try go_frame)
                    refine rconsQ 3 rfl (by kernel_rfl) (fun K hK => ?_)
                    go_simp
                    (refine (HO5.out _ _ (by first | exact new_cell _ _ _ _ _ rfl | exact new_celld _ _ _ _ _ rfl) (by first | exact new_cell _ _ _ _ _ rfl | exact new_celld _ _ _ _ _ rfl) (by first | exact new_cell _ _ _ _ _ rfl | exact new_celld _ _ _ _ _ rfl) (by first | exact new_lt _ _ | exact new_ltd _ _)).mono ?_; rintro e w2 ⟨rfl, hb⟩)
                    (try dsimp only)
                    refine hK.out _ _ (KS.below hb hHeld) (fun hHeld2 => ?_)
                    clear hK K hHeld
                    have hHeld := hHeld2
                    clear hHeld2
                    (try go_frame)
                    refine rconsQ 4 rfl (by kernel_rfl) (fun K hK => ?_)
                    go_simp
                    (refine (HM5.out _).mono ?_; rintro e w2 ⟨rfl, hb⟩)
                    (try dsimp only)
                    refine hK.out _ _ (KS.below hb hHeld) (fun hHeld2 => ?_)
                    clear hK K hHeld
                    have hHeld := hHeld2
                    clear hHeld2
                    (try go_frame)
                    refine tkyQ 5 (some 62) (v := ?_) rfl (by kernel_rfl) (by kernel_rfl) (by kernel_rfl) (fun _ _ _ h => h) ?_ hHeld ?_
                    rotate_left
                    focus (intro w hSw; (try dsimp only at hSw); go_simp; (try with_reducible rfl); done)
                    go_frame
                    refine tkyQ 6 (some 63) (v := ?_) rfl (by kernel_rfl) (by kernel_rfl) (by kernel_rfl) (fun _ _ _ h => h) ?_ hHeld ?_
                    rotate_left
                    focus (intro w hSw; (try dsimp only at hSw); go_simp; (try with_reducible rfl); done)
                    go_frame
                    refine tkyQ 7 (some 64) (v := ?_) rfl (by kernel_rfl) (by kernel_rfl) (by kernel_rfl) (fun _ _ _ h => h) ?_ hHeld ?_
                    rotate_left
                    focus (intro w hSw; (try dsimp only at hSw); go_simp; (try with_reducible rfl); done)
                    go_frame
                    refine tkyQ 8 (some 65) (v := ?_) rfl (by kernel_rfl) (by kernel_rfl) (by kernel_rfl) (fun _ _ _ h => h) ?_ hHeld ?_
                    rotate_left
                    focus (intro w hSw; (try dsimp only at hSw); go_simp; (try with_reducible rfl); done)
                    go_frame
                    refine tkyQ 9 (some 66) (v := ?_) rfl (by kernel_rfl) (by kernel_rfl) (by kernel_rfl) (fun _ _ _ h => h) ?_ hHeld ?_
                    rotate_left
                    focus (intro w hSw; (try dsimp only at hSw); go_simp; (try with_reducible rfl); done)
                    go_frame
                    refine tkyQ 10 (some 67) (v := ?_) rfl (by kernel_rfl) (by kernel_rfl) (by kernel_rfl) (fun _ _ _ h => h) ?_ hHeld ?_
                    rotate_left
                    focus (intro w hSw; (try dsimp only at hSw); go_simp; (try with_reducible rfl); done)
                    go_frame
                    refine tkyQ 11 (some 68) (v := ?_) rfl (by kernel_rfl) (by kernel_rfl) (by kernel_rfl) (fun _ _ _ h => h) ?_ hHeld ?_
                    rotate_left
                    focus (intro w hSw; (try dsimp only at hSw); go_simp; (try with_reducible rfl); done)
                    go_frame
                    refine tkyQ 12 (some 69) (v := ?_) rfl (by kernel_rfl) (by kernel_rfl) (by kernel_rfl) (fun _ _ _ h => h) ?_ hHeld ?_
                    rotate_left
                    focus (intro w hSw; (try dsimp only at hSw); go_simp; (try with_reducible rfl); done)
                    go_frame
                    refine tkyQ 13 (some 70) (v := ?_) rfl (by kernel_rfl) (by kernel_rfl) (by kernel_rfl) (fun _ _ _ h => h) ?_ hHeld ?_
                    rotate_left
                    focus (intro w hSw; (try dsimp only at hSw); go_simp; (try with_reducible rfl); done)
                    go_frame
                    refine tkyQ 14 (some 71) (v := ?_) rfl (by kernel_rfl) (by kernel_rfl) (by kernel_rfl) (fun _ _ _ h => h) ?_ hHeld ?_
                    rotate_left
                    focus (intro w hSw; (try dsimp only at hSw); go_simp; (try with_reducible rfl); done)
                    go_frame
                    refine tkyQ 15 (some 72) (v := ?_) rfl (by kernel_rfl) (by kernel_rfl) (by kernel_rfl) (fun _ _ _ h => h) ?_ hHeld ?_
                    rotate_left
                    focus (intro w hSw; (try dsimp only at hSw); go_simp; (try with_reducible rfl); done)
                    go_frame
                    refine tkyQ 16 (some 73) (v := ?_) rfl (by kernel_rfl) (by kernel_rfl) (by kernel_rfl) (fun _ _ _ h => h) ?_ hHeld ?_
                    rotate_left
                    focus (intro w hSw; (try dsimp only at hSw); go_simp; (try with_reducible rfl); done)
                    go_frame
                    refine tkyQ 17 (some 74) (v := ?_) rfl (by kernel_rfl) (by kernel_rfl) (by kernel_rfl) (fun _ _ _ h => h) ?_ hHeld ?_
                    rotate_left
                    focus (intro w hSw; (try dsimp only at hSw); go_simp; (try with_reducible rfl); done)
                    go_frame
                    refine tkyQ 18 (some 75) (v := ?_) rfl (by kernel_rfl) (by kernel_rfl) (by kernel_rfl) (fun _ _ _ h => h) ?_ hHeld ?_
                    rotate_left
                    focus (intro w hSw; (try dsimp only at hSw); go_simp; (try with_reducible rfl); done)
                    go_frame
                    refine rconsQ 19 rfl (by kernel_rfl) (fun K hK => ?_)
                    go_simp
                    refine hK.out _ _ (by first | exact KS.allocd _ hHeld | exact KS.alloc _ hHeld) (fun hHeld2 => ?_)
                    clear hK K hHeld
                    have hHeld := hHeld2
                    clear hHeld2
                    (try go_frame)
                    refine rconsQ 20 rfl (by kernel_rfl) (fun K hK => ?_)
                    go_simp
                    (refine (HO6.out _ _ (by first | exact new_cell _ _ _ _ _ rfl | exact new_celld _ _ _ _ _ rfl) (by first | exact new_cell _ _ _ _ _ rfl | exact new_celld _ _ _ _ _ rfl) (by first | exact new_cell _ _ _ _ _ rfl | exact new_celld _ _ _ _ _ rfl) (by first | exact new_lt _ _ | exact new_ltd _ _)).mono ?_; rintro e w2 ⟨rfl, hb⟩)
                    (try dsimp only)
                    refine hK.out _ _ (KS.below hb hHeld) (fun hHeld2 => ?_)
                    clear hK K hHeld
                    have hHeld := hHeld2
                    clear hHeld2
                    (try go_frame)
                    refine rconsQ 21 rfl (by kernel_rfl) (fun K hK => ?_)
                    go_simp
                    (refine (HM6.out _).mono ?_; rintro e w2 ⟨rfl, hb⟩)
                    (try dsimp only)
                    refine hK.out _ _ (KS.below hb hHeld) (fun hHeld2 => ?_)
                    clear hK K hHeld
                    have hHeld := hHeld2
                    clear hHeld2
                    (try go_frame)
                    refine tkyQ 22 (some 79) (v := ?_) rfl (by kernel_rfl) (by kernel_rfl) (by kernel_rfl) (fun _ _ _ h => h) ?_ hHeld ?_
                    rotate_left
                    focus (intro w hSw; (try dsimp only at hSw); go_simp; (try with_reducible rfl); done)
                    go_frame
                    refine tkyQ 23 (some 80) (v := ?_) rfl (by kernel_rfl) (by kernel_rfl) (by kernel_rfl) (fun _ _ _ h => h) ?_ hHeld ?_
                    rotate_left
                    focus (intro w hSw; (try dsimp only at hSw); go_simp; (try with_reducible rfl); done)
                    go_frame
                    refine tkyQ 24 (some 81) (v := ?_) rfl (by kernel_rfl) (by kernel_rfl) (by kernel_rfl) (fun _ _ _ h => h) ?_ hHeld ?_
                    rotate_left
                    focus (intro w hSw; (try dsimp only at hSw); go_simp; (try with_reducible rfl); done)
                    go_frame
                    refine tkyQ 25 (some 82) (v := ?_) rfl (by kernel_rfl) (by kernel_rfl) (by kernel_rfl) (fun _ _ _ h => h) ?_ hHeld ?_
                    rotate_left
                    focus (intro w hSw; (try dsimp only at hSw); go_simp; (try with_reducible rfl); done)
                    go_frame
                    refine tkyQ 26 (some 83) (v := ?_) rfl (by kernel_rfl) (by kernel_rfl) (by kernel_rfl) (fun _ _ _ h => h) ?_ hHeld ?_
                    rotate_left
                    focus (intro w hSw; (try dsimp only at hSw); go_simp; (try with_reducible rfl); done)
                    go_frame
                    refine tkyQ 27 (some 84) (v := ?_) rfl (by kernel_rfl) (by kernel_rfl) (by kernel_rfl) (fun _ _ _ h => h) ?_ hHeld ?_
                    rotate_left
                    focus (intro w hSw; (try dsimp only at hSw); go_simp; (try with_reducible rfl); done)
                    go_frame
                    refine tkyQ 28 (some 85) (v := ?_) rfl (by kernel_rfl) (by kernel_rfl) (by kernel_rfl) (fun _ _ _ h => h) ?_ hHeld ?_
                    rotate_left
                    focus (intro w hSw; (try dsimp only at hSw); go_simp; (try with_reducible rfl); done)
                    go_frame
                    refine tkyQ 29 (some 86) (v := ?_) rfl (by kernel_rfl) (by kernel_rfl) (by kernel_rfl) (fun _ _ _ h => h) ?_ hHeld ?_
                    rotate_left
                    focus (intro w hSw; (try dsimp only at hSw); go_simp; (try with_reducible rfl); done)
                    go_frame
                    refine tkyQ 30 (some 87) (v := ?_) rfl (by kernel_rfl) (by kernel_rfl) (by kernel_rfl) (fun _ _ _ h => h) ?_ hHeld ?_
                    rotate_left
                    focus (intro w hSw; (try dsimp only at hSw); go_simp; (try with_reducible rfl); done)
                    go_frame
                    refine tkyQ 31 (some 88) (v := ?_) rfl (by kernel_rfl) (by kernel_rfl) (by kernel_rfl) (fun _ _ _ h => h) ?_ hHeld ?_
                    rotate_left
                    focus (intro w hSw; (try dsimp only at hSw); go_simp; (try with_reducible rfl); done)
                    go_frame
                    refine tkyQ 32 (some 5) (v := ?_) rfl (by kernel_rfl) (by kernel_rfl) (by kernel_rfl) (fun _ _ _ h => h) ?_ hHeld ?_
                    rotate_left
                    focus (intro w hSw; (try dsimp only at hSw); go_simp; (try with_reducible rfl); done)
                    go_frame
                    refine wpAnyH_done (by kernel_rfl) ?_ _
                    go_wp2_with fail
                    go_meet
                    refine ⟨congrArg Value.bool ?_, hHeld⟩
                    ((try rw [P4.out]); (try rw [P5.out]); (try rw [Q4.out]); (try simp only [HBL.out]); (first | rfl | (simp; done)))
                · refine wp_region_held_drew (S := (fun W => W.cell? ⟨w.heap.size, 0, none⟩ = some (.string sc) ∧ W.cell? ⟨w.heap.size, 1, none⟩ = some (.string us) ∧ W.cell? ⟨w.heap.size, 2, none⟩ = some (.string ho) ∧ W.cell? ⟨w.heap.size, 3, none⟩ = some (.string po) ∧ W.cell? ⟨w.heap.size, 4, none⟩ = some (.string pa) ∧ W.cell? ⟨w.heap.size, 5, none⟩ = some (.string qu) ∧ W.cell? ⟨w.heap.size, 6, none⟩ = some (.bool hu) ∧ W.cell? ⟨w.heap.size, 7, none⟩ = some (.bool true) ∧ w.heap.size < W.heap.size ∧ Below w.heap.size w W)) (by kernel_rfl) (KS.drew ⟨a0, a1, a2, a3, a4, a5, a6, a7, hl, hw⟩) (fun hHeld => ?_)
                  refine tkyQ 0 (some 57) (v := ?_) rfl (by kernel_rfl) (by kernel_rfl) (by kernel_rfl) (fun _ _ _ h => h) ?_ hHeld ?_
                  rotate_left
                  focus (intro w hSw; (try dsimp only at hSw); go_simp; (try with_reducible rfl); done)
                  go_frame
                  refine tkyQ 1 (some 58) (v := ?_) rfl (by kernel_rfl) (by kernel_rfl) (by kernel_rfl) (fun _ _ _ h => h) ?_ hHeld ?_
                  rotate_left
                  focus (intro w hSw; (try dsimp only at hSw); go_simp; (try with_reducible rfl); done)
                  go_frame
                  refine rconsQ 2 rfl (by kernel_rfl) (fun K hK => ?_)
                  go_simp
                  refine hK.out _ _ (by first | exact KS.allocd _ hHeld | exact KS.alloc _ hHeld) (fun hHeld2 => ?_)
                  clear hK K hHeld
                  have hHeld := hHeld2
                  clear hHeld2
                  (try go_frame)
                  refine rconsQ 3 rfl (by kernel_rfl) (fun K hK => ?_)
                  go_simp
                  (refine (HO5.out _ _ (by first | exact new_cell _ _ _ _ _ rfl | exact new_celld _ _ _ _ _ rfl) (by first | exact new_cell _ _ _ _ _ rfl | exact new_celld _ _ _ _ _ rfl) (by first | exact new_cell _ _ _ _ _ rfl | exact new_celld _ _ _ _ _ rfl) (by first | exact new_lt _ _ | exact new_ltd _ _)).mono ?_; rintro e w2 ⟨rfl, hb⟩)
                  (try dsimp only)
                  refine hK.out _ _ (KS.below hb hHeld) (fun hHeld2 => ?_)
                  clear hK K hHeld
                  have hHeld := hHeld2
                  clear hHeld2
                  (try go_frame)
                  refine rconsQ 4 rfl (by kernel_rfl) (fun K hK => ?_)
                  go_simp
                  (refine (HM5.out _).mono ?_; rintro e w2 ⟨rfl, hb⟩)
                  (try dsimp only)
                  refine hK.out _ _ (KS.below hb hHeld) (fun hHeld2 => ?_)
                  clear hK K hHeld
                  have hHeld := hHeld2
                  clear hHeld2
                  (try go_frame)
                  refine tkyQ 5 (some 62) (v := ?_) rfl (by kernel_rfl) (by kernel_rfl) (by kernel_rfl) (fun _ _ _ h => h) ?_ hHeld ?_
                  rotate_left
                  focus (intro w hSw; (try dsimp only at hSw); go_simp; (try with_reducible rfl); done)
                  go_frame
                  refine tkyQ 6 (some 63) (v := ?_) rfl (by kernel_rfl) (by kernel_rfl) (by kernel_rfl) (fun _ _ _ h => h) ?_ hHeld ?_
                  rotate_left
                  focus (intro w hSw; (try dsimp only at hSw); go_simp; (try with_reducible rfl); done)
                  go_frame
                  refine tkyQ 7 (some 64) (v := ?_) rfl (by kernel_rfl) (by kernel_rfl) (by kernel_rfl) (fun _ _ _ h => h) ?_ hHeld ?_
                  rotate_left
                  focus (intro w hSw; (try dsimp only at hSw); go_simp; (try with_reducible rfl); done)
                  go_frame
                  refine tkyQ 8 (some 65) (v := ?_) rfl (by kernel_rfl) (by kernel_rfl) (by kernel_rfl) (fun _ _ _ h => h) ?_ hHeld ?_
                  rotate_left
                  focus (intro w hSw; (try dsimp only at hSw); go_simp; (try with_reducible rfl); done)
                  go_frame
                  refine tkyQ 9 (some 66) (v := ?_) rfl (by kernel_rfl) (by kernel_rfl) (by kernel_rfl) (fun _ _ _ h => h) ?_ hHeld ?_
                  rotate_left
                  focus (intro w hSw; (try dsimp only at hSw); go_simp; (try with_reducible rfl); done)
                  go_frame
                  refine tkyQ 10 (some 67) (v := ?_) rfl (by kernel_rfl) (by kernel_rfl) (by kernel_rfl) (fun _ _ _ h => h) ?_ hHeld ?_
                  rotate_left
                  focus (intro w hSw; (try dsimp only at hSw); go_simp; (try with_reducible rfl); done)
                  go_frame
                  refine tkyQ 11 (some 68) (v := ?_) rfl (by kernel_rfl) (by kernel_rfl) (by kernel_rfl) (fun _ _ _ h => h) ?_ hHeld ?_
                  rotate_left
                  focus (intro w hSw; (try dsimp only at hSw); go_simp; (try with_reducible rfl); done)
                  go_frame
                  refine tkyQ 12 (some 69) (v := ?_) rfl (by kernel_rfl) (by kernel_rfl) (by kernel_rfl) (fun _ _ _ h => h) ?_ hHeld ?_
                  rotate_left
                  focus (intro w hSw; (try dsimp only at hSw); go_simp; (try with_reducible rfl); done)
                  go_frame
                  refine tkyQ 13 (some 70) (v := ?_) rfl (by kernel_rfl) (by kernel_rfl) (by kernel_rfl) (fun _ _ _ h => h) ?_ hHeld ?_
                  rotate_left
                  focus (intro w hSw; (try dsimp only at hSw); go_simp; (try with_reducible rfl); done)
                  go_frame
                  refine tkyQ 14 (some 71) (v := ?_) rfl (by kernel_rfl) (by kernel_rfl) (by kernel_rfl) (fun _ _ _ h => h) ?_ hHeld ?_
                  rotate_left
                  focus (intro w hSw; (try dsimp only at hSw); go_simp; (try with_reducible rfl); done)
                  go_frame
                  refine tkyQ 15 (some 72) (v := ?_) rfl (by kernel_rfl) (by kernel_rfl) (by kernel_rfl) (fun _ _ _ h => h) ?_ hHeld ?_
                  rotate_left
                  focus (intro w hSw; (try dsimp only at hSw); go_simp; (try with_reducible rfl); done)
                  go_frame
                  refine tkyQ 16 (some 73) (v := ?_) rfl (by kernel_rfl) (by kernel_rfl) (by kernel_rfl) (fun _ _ _ h => h) ?_ hHeld ?_
                  rotate_left
                  focus (intro w hSw; (try dsimp only at hSw); go_simp; (try with_reducible rfl); done)
                  go_frame
                  refine tkyQ 17 (some 74) (v := ?_) rfl (by kernel_rfl) (by kernel_rfl) (by kernel_rfl) (fun _ _ _ h => h) ?_ hHeld ?_
                  rotate_left
                  focus (intro w hSw; (try dsimp only at hSw); go_simp; (try with_reducible rfl); done)
                  go_frame
                  refine tkyQ 18 (some 75) (v := ?_) rfl (by kernel_rfl) (by kernel_rfl) (by kernel_rfl) (fun _ _ _ h => h) ?_ hHeld ?_
                  rotate_left
                  focus (intro w hSw; (try dsimp only at hSw); go_simp; (try with_reducible rfl); done)
                  go_frame
                  refine rconsQ 19 rfl (by kernel_rfl) (fun K hK => ?_)
                  go_simp
                  refine hK.out _ _ (by first | exact KS.allocd _ hHeld | exact KS.alloc _ hHeld) (fun hHeld2 => ?_)
                  clear hK K hHeld
                  have hHeld := hHeld2
                  clear hHeld2
                  (try go_frame)
                  refine rconsQ 20 rfl (by kernel_rfl) (fun K hK => ?_)
                  go_simp
                  (refine (HO6.out _ _ (by first | exact new_cell _ _ _ _ _ rfl | exact new_celld _ _ _ _ _ rfl) (by first | exact new_cell _ _ _ _ _ rfl | exact new_celld _ _ _ _ _ rfl) (by first | exact new_cell _ _ _ _ _ rfl | exact new_celld _ _ _ _ _ rfl) (by first | exact new_lt _ _ | exact new_ltd _ _)).mono ?_; rintro e w2 ⟨rfl, hb⟩)
                  (try dsimp only)
                  refine hK.out _ _ (KS.below hb hHeld) (fun hHeld2 => ?_)
                  clear hK K hHeld
                  have hHeld := hHeld2
                  clear hHeld2
                  (try go_frame)
                  refine rconsQ 21 rfl (by kernel_rfl) (fun K hK => ?_)
                  go_simp
                  (refine (HM6.out _).mono ?_; rintro e w2 ⟨rfl, hb⟩)
                  (try dsimp only)
                  refine hK.out _ _ (KS.below hb hHeld) (fun hHeld2 => ?_)
                  clear hK K hHeld
                  have hHeld := hHeld2
                  clear hHeld2
                  (try go_frame)
                  refine tkyQ 22 (some 79) (v := ?_) rfl (by kernel_rfl) (by kernel_rfl) (by kernel_rfl) (fun _ _ _ h => h) ?_ hHeld ?_
                  rotate_left
                  focus (intro w hSw; (try dsimp only at hSw); go_simp; (try with_reducible rfl); done)
                  go_frame
                  refine tkyQ 23 (some 80) (v := ?_) rfl (by kernel_rfl) (by kernel_rfl) (by kernel_rfl) (fun _ _ _ h => h) ?_ hHeld ?_
                  rotate_left
                  focus (intro w hSw; (try dsimp only at hSw); go_simp; (try with_reducible rfl); done)
                  go_frame
                  refine tkyQ 24 (some 81) (v := ?_) rfl (by kernel_rfl) (by kernel_rfl) (by kernel_rfl) (fun _ _ _ h => h) ?_ hHeld ?_
                  rotate_left
                  focus (intro w hSw; (try dsimp only at hSw); go_simp; (try with_reducible rfl); done)
                  go_frame
                  refine tkyQ 25 (some 82) (v := ?_) rfl (by kernel_rfl) (by kernel_rfl) (by kernel_rfl) (fun _ _ _ h => h) ?_ hHeld ?_
                  rotate_left
                  focus (intro w hSw; (try dsimp only at hSw); go_simp; (try with_reducible rfl); done)
                  go_frame
                  refine tkyQ 26 (some 83) (v := ?_) rfl (by kernel_rfl) (by kernel_rfl) (by kernel_rfl) (fun _ _ _ h => h) ?_ hHeld ?_
                  rotate_left
                  focus (intro w hSw; (try dsimp only at hSw); go_simp; (try with_reducible rfl); done)
                  go_frame
                  refine tknQ 27 (some 84) rfl (by kernel_rfl) (by kernel_rfl) (by kernel_rfl) (fun _ _ _ h => h) hHeld ?_
                  go_frame
                  refine tknQ 28 (some 85) rfl (by kernel_rfl) (by kernel_rfl) (by kernel_rfl) (fun _ _ _ h => h) hHeld ?_
                  go_frame
                  refine tknQ 29 (some 86) rfl (by kernel_rfl) (by kernel_rfl) (by kernel_rfl) (fun _ _ _ h => h) hHeld ?_
                  go_frame
                  refine tkyQ 30 (some 87) (v := ?_) rfl (by kernel_rfl) (by kernel_rfl) (by kernel_rfl) (fun _ _ _ h => h) ?_ hHeld ?_
                  rotate_left
                  focus (intro w hSw; (try dsimp only at hSw); go_simp; (try with_reducible rfl); done)
                  go_frame
                  refine tkyQ 31 (some 88) (v := ?_) rfl (by kernel_rfl) (by kernel_rfl) (by kernel_rfl) (fun _ _ _ h => h) ?_ hHeld ?_
                  rotate_left
                  focus (intro w hSw; (try dsimp only at hSw); go_simp; (try with_reducible rfl); done)
                  go_frame
                  refine tkyQ 32 (some 5) (v := ?_) rfl (by kernel_rfl) (by kernel_rfl) (by kernel_rfl) (fun _ _ _ h => h) ?_ hHeld ?_
                  rotate_left
                  focus (intro w hSw; (try dsimp only at hSw); go_simp; (try with_reducible rfl); done)
                  go_frame
                  refine wpAnyH_done (by kernel_rfl) ?_ _
                  go_wp2_with fail
                  go_meet
                  refine ⟨congrArg Value.bool ?_, hHeld⟩
                  ((try rw [P4.out]); (try rw [P5.out]); (try rw [Q4.out]); (try simp only [HBL.out]); (first | rfl | (simp; done)))
            · have hx3 : ((pa[0].toNat : Int) == 47) = false := by simpa using hx
              have hx2 : (some pa[0] == some 47) = false := by
                cases q : (some pa[0] == some 47)
                · rfl
                · rw [beq_iff_eq] at q
                  injection q with q
                  rw [q] at hx
                  exact absurd rfl hx
              have HBL := Lib.hid hx2
              clear hx2
              refine wp_region_held_drew (S := (fun W => W.cell? ⟨w.heap.size, 0, none⟩ = some (.string sc) ∧ W.cell? ⟨w.heap.size, 1, none⟩ = some (.string us) ∧ W.cell? ⟨w.heap.size, 2, none⟩ = some (.string ho) ∧ W.cell? ⟨w.heap.size, 3, none⟩ = some (.string po) ∧ W.cell? ⟨w.heap.size, 4, none⟩ = some (.string pa) ∧ W.cell? ⟨w.heap.size, 5, none⟩ = some (.string qu) ∧ W.cell? ⟨w.heap.size, 6, none⟩ = some (.bool hu) ∧ W.cell? ⟨w.heap.size, 7, none⟩ = some (.bool hq) ∧ w.heap.size < W.heap.size ∧ Below w.heap.size w W)) (by kernel_rfl) (KS.drew ⟨a0, a1, a2, a3, a4, a5, a6, a7, hl, hw⟩) (fun hHeld => ?_)
              refine tkyQ 0 (some 57) (v := ?_) rfl (by kernel_rfl) (by kernel_rfl) (by kernel_rfl) (fun _ _ _ h => h) ?_ hHeld ?_
              rotate_left
              focus (intro w hSw; (try dsimp only at hSw); go_simp; (try with_reducible rfl); done)
              go_frame
              refine tkyQ 1 (some 58) (v := ?_) rfl (by kernel_rfl) (by kernel_rfl) (by kernel_rfl) (fun _ _ _ h => h) ?_ hHeld ?_
              rotate_left
              focus (intro w hSw; (try dsimp only at hSw); go_simp; (try with_reducible rfl); done)
              go_frame
              refine rconsQ 2 rfl (by kernel_rfl) (fun K hK => ?_)
              go_simp
              refine hK.out _ _ (by first | exact KS.allocd _ hHeld | exact KS.alloc _ hHeld) (fun hHeld2 => ?_)
              clear hK K hHeld
              have hHeld := hHeld2
              clear hHeld2
              (try go_frame)
              refine rconsQ 3 rfl (by kernel_rfl) (fun K hK => ?_)
              go_simp
              (refine (HO5.out _ _ (by first | exact new_cell _ _ _ _ _ rfl | exact new_celld _ _ _ _ _ rfl) (by first | exact new_cell _ _ _ _ _ rfl | exact new_celld _ _ _ _ _ rfl) (by first | exact new_cell _ _ _ _ _ rfl | exact new_celld _ _ _ _ _ rfl) (by first | exact new_lt _ _ | exact new_ltd _ _)).mono ?_; rintro e w2 ⟨rfl, hb⟩)
              (try dsimp only)
              refine hK.out _ _ (KS.below hb hHeld) (fun hHeld2 => ?_)
              clear hK K hHeld
              have hHeld := hHeld2
              clear hHeld2
              (try go_frame)
              refine rconsQ 4 rfl (by kernel_rfl) (fun K hK => ?_)
              go_simp
              (refine (HM5.out _).mono ?_; rintro e w2 ⟨rfl, hb⟩)
              (try dsimp only)
              refine hK.out _ _ (KS.below hb hHeld) (fun hHeld2 => ?_)
              clear hK K hHeld
              have hHeld := hHeld2
              clear hHeld2
              (try go_frame)
              refine tkyQ 5 (some 62) (v := ?_) rfl (by kernel_rfl) (by kernel_rfl) (by kernel_rfl) (fun _ _ _ h => h) ?_ hHeld ?_
              rotate_left
              focus (intro w hSw; (try dsimp only at hSw); go_simp; (try with_reducible rfl); done)
              go_frame
              refine tkyQ 6 (some 63) (v := ?_) rfl (by kernel_rfl) (by kernel_rfl) (by kernel_rfl) (fun _ _ _ h => h) ?_ hHeld ?_
              rotate_left
              focus (intro w hSw; (try dsimp only at hSw); go_simp; (try with_reducible rfl); done)
              go_frame
              refine tkyQ 7 (some 64) (v := ?_) rfl (by kernel_rfl) (by kernel_rfl) (by kernel_rfl) (fun _ _ _ h => h) ?_ hHeld ?_
              rotate_left
              focus (intro w hSw; (try dsimp only at hSw); go_simp; (try with_reducible rfl); done)
              go_frame
              refine tkyQ 8 (some 65) (v := ?_) rfl (by kernel_rfl) (by kernel_rfl) (by kernel_rfl) (fun _ _ _ h => h) ?_ hHeld ?_
              rotate_left
              focus (intro w hSw; (try dsimp only at hSw); go_simp; (try with_reducible rfl); done)
              go_frame
              refine tkyQ 9 (some 66) (v := ?_) rfl (by kernel_rfl) (by kernel_rfl) (by kernel_rfl) (fun _ _ _ h => h) ?_ hHeld ?_
              rotate_left
              focus (intro w hSw; (try dsimp only at hSw); go_simp; (try with_reducible rfl); done)
              go_frame
              refine tkyQ 10 (some 67) (v := ?_) rfl (by kernel_rfl) (by kernel_rfl) (by kernel_rfl) (fun _ _ _ h => h) ?_ hHeld ?_
              rotate_left
              focus (intro w hSw; (try dsimp only at hSw); go_simp; (try with_reducible rfl); done)
              go_frame
              refine tkyQ 11 (some 68) (v := ?_) rfl (by kernel_rfl) (by kernel_rfl) (by kernel_rfl) (fun _ _ _ h => h) ?_ hHeld ?_
              rotate_left
              focus (intro w hSw; (try dsimp only at hSw); go_simp; (try with_reducible rfl); done)
              go_frame
              refine tkyQ 12 (some 69) (v := ?_) rfl (by kernel_rfl) (by kernel_rfl) (by kernel_rfl) (fun _ _ _ h => h) ?_ hHeld ?_
              rotate_left
              focus (intro w hSw; (try dsimp only at hSw); go_simp; (try with_reducible rfl); done)
              go_frame
              refine tkyQ 13 (some 70) (v := ?_) rfl (by kernel_rfl) (by kernel_rfl) (by kernel_rfl) (fun _ _ _ h => h) ?_ hHeld ?_
              rotate_left
              focus (intro w hSw; (try dsimp only at hSw); go_simp; (try with_reducible rfl); done)
              go_frame
              refine tkyQ 14 (some 71) (v := ?_) rfl (by kernel_rfl) (by kernel_rfl) (by kernel_rfl) (fun _ _ _ h => h) ?_ hHeld ?_
              rotate_left
              focus (intro w hSw; (try dsimp only at hSw); go_simp; (try with_reducible rfl); done)
              go_frame
              refine tkyQ 15 (some 72) (v := ?_) rfl (by kernel_rfl) (by kernel_rfl) (by kernel_rfl) (fun _ _ _ h => h) ?_ hHeld ?_
              rotate_left
              focus (intro w hSw; (try dsimp only at hSw); go_simp; (try with_reducible rfl); done)
              go_frame
              refine tkyQ 16 (some 73) (v := ?_) rfl (by kernel_rfl) (by kernel_rfl) (by kernel_rfl) (fun _ _ _ h => h) ?_ hHeld ?_
              rotate_left
              focus (intro w hSw; (try dsimp only at hSw); go_simp; (try with_reducible rfl); done)
              go_frame
              refine tknQ 17 (some 74) rfl (by kernel_rfl) (by kernel_rfl) (by kernel_rfl) (fun _ _ _ h => h) hHeld ?_
              go_frame
              refine tknQ 18 (some 75) rfl (by kernel_rfl) (by kernel_rfl) (by kernel_rfl) (fun _ _ _ h => h) hHeld ?_
              go_frame
              refine tknQ 19 (some 76) rfl (by kernel_rfl) (by kernel_rfl) (by kernel_rfl) (fun _ _ _ h => h) hHeld ?_
              go_frame
              refine tknQ 20 (some 77) rfl (by kernel_rfl) (by kernel_rfl) (by kernel_rfl) (fun _ _ _ h => h) hHeld ?_
              go_frame
              refine tknQ 21 (some 78) rfl (by kernel_rfl) (by kernel_rfl) (by kernel_rfl) (fun _ _ _ h => h) hHeld ?_
              go_frame
              refine tkyQ 22 (some 79) (v := ?_) rfl (by kernel_rfl) (by kernel_rfl) (by kernel_rfl) (fun _ _ _ h => h) ?_ hHeld ?_
              rotate_left
              focus (intro w hSw; (try dsimp only at hSw); go_simp; (try with_reducible rfl); done)
              go_frame
              refine tkyQ 23 (some 80) (v := ?_) rfl (by kernel_rfl) (by kernel_rfl) (by kernel_rfl) (fun _ _ _ h => h) ?_ hHeld ?_
              rotate_left
              focus (intro w hSw; (try dsimp only at hSw); go_simp; (try with_reducible rfl); done)
              go_frame
              refine tknQ 24 (some 81) rfl (by kernel_rfl) (by kernel_rfl) (by kernel_rfl) (fun _ _ _ h => h) hHeld ?_
              go_frame
              refine tknQ 25 (some 82) rfl (by kernel_rfl) (by kernel_rfl) (by kernel_rfl) (fun _ _ _ h => h) hHeld ?_
              go_frame
              refine tknQ 26 (some 83) rfl (by kernel_rfl) (by kernel_rfl) (by kernel_rfl) (fun _ _ _ h => h) hHeld ?_
              go_frame
              refine tknQ 27 (some 84) rfl (by kernel_rfl) (by kernel_rfl) (by kernel_rfl) (fun _ _ _ h => h) hHeld ?_
              go_frame
              refine tknQ 28 (some 85) rfl (by kernel_rfl) (by kernel_rfl) (by kernel_rfl) (fun _ _ _ h => h) hHeld ?_
              go_frame
              refine tknQ 29 (some 86) rfl (by kernel_rfl) (by kernel_rfl) (by kernel_rfl) (fun _ _ _ h => h) hHeld ?_
              go_frame
              refine tknQ 30 (some 87) rfl (by kernel_rfl) (by kernel_rfl) (by kernel_rfl) (fun _ _ _ h => h) hHeld ?_
              go_frame
              refine tkyQ 31 (some 88) (v := ?_) rfl (by kernel_rfl) (by kernel_rfl) (by kernel_rfl) (fun _ _ _ h => h) ?_ hHeld ?_
              rotate_left
              focus (intro w hSw; (try dsimp only at hSw); go_simp; (try with_reducible rfl); done)
              go_frame
              refine tkyQ 32 (some 5) (v := ?_) rfl (by kernel_rfl) (by kernel_rfl) (by kernel_rfl) (fun _ _ _ h => h) ?_ hHeld ?_
              rotate_left
              focus (intro w hSw; (try dsimp only at hSw); go_simp; (try with_reducible rfl); done)
              go_frame
              refine wpAnyH_done (by kernel_rfl) ?_ _
              go_wp2_with fail
              go_meet
              refine ⟨congrArg Value.bool ?_, hHeld⟩
              ((try rw [P4.out]); (try rw [P5.out]); (try rw [Q4.out]); (try simp only [HBL.out]); (first | rfl | (simp; done)))
      case rest =>
        rename World => wz
        obtain ⟨rfl, hK⟩ := hcut
        clear a0 a1 a2 a3 a4 a5 a6 a7 hl hw
        obtain ⟨c3, hc3⟩ : ∃ c3, (b5 && (pa.data.toList.isEmpty || pa.data.toList.head? == some 47) && b6 && (hq || qu.data.toList.isEmpty)) = c3 := ⟨_, rfl⟩
        rw [hc3]
        have HC3 := Lib.hid hc3
        clear hc3
        obtain ⟨a0, a1, a2, a3, a4, a5, a6, a7, hl, hw⟩ := hK
        have HRR : Hid ((c1 && c2 && c3 && decide (tx.size ≤ 2048)) = r) := Lib.hid (by
          rw [← HR.out, ← HC2.out, ← HC3.out]
          generalize (pa.data.toList.isEmpty || pa.data.toList.head? == some 47) = y1
          generalize us.data.toList.isEmpty = y2
          generalize qu.data.toList.isEmpty = y3
          cases c1 <;> cases b2 <;> cases b3 <;> cases b4 <;> cases b5 <;> cases b6 <;> cases hu <;> cases hq <;> cases y1 <;> cases y2 <;> cases y3 <;> rfl)
        clear HR HC2 HC3
        cases c1
        · obtain rfl : false = r := HRR.out
          clear HRR
          go_wp2_with fail
          go_ret
          exact ⟨ret_iQ rfl, hw⟩
        · cases c2
          · obtain rfl : false = r := HRR.out
            clear HRR
            go_wp2_with fail
            go_ret
            exact ⟨ret_iQ rfl, hw⟩
          · cases c3
            · obtain rfl : false = r := HRR.out
              clear HRR
              go_wp2_with fail
              go_ret
              exact ⟨ret_iQ rfl, hw⟩
            · by_cases hlen : tx.size ≤ 2048
              · obtain rfl : true = r := by rw [← HRR.out]; simp [hlen]
                clear HRR
                go_wp2_with fail
                refine (HTL.out _).mono ?_; rintro e w1 ⟨rfl, hb⟩
                have hf : Below w.heap.size w w1 := hw.trans (hb.mono hw.size)
                go_wp2_with fail
                go_ret
                exact ⟨ret_iQ rfl, hf⟩
              · obtain rfl : false = r := by rw [← HRR.out]; simp [hlen]
                clear HRR
                go_wp2_with fail
                refine (HTL.out _).mono ?_; rintro e w1 ⟨rfl, hb⟩
                have hf : Below w.heap.size w w1 := hw.trans (hb.mono hw.size)
                go_wp2_with fail
                go_ret
                exact ⟨ret_iQ rfl, hf⟩
end Go.Proofs.YtjhgiojmlkeccaaGreatDoor
namespace Go.Proofs.YtjhgiojmlkeccaaGreatDoor
open Go.RowKit
theorem encode_highQ (r : Int) (h : 128 ≤ r) : 2 ≤ (Utf8.encode r).size ∧ ∀ (k : Nat) (hk : k < (Utf8.encode r).size), 128 ≤ ((Utf8.encode r)[k]).toNat := by
  have hc : ∃ c : Nat, 128 ≤ c ∧ c < 1114112 ∧ Utf8.encode r = (let b (n : Nat) : UInt8 := UInt8.ofNat n
      if c < 0x80 then ⟨#[b c]⟩
      else if c < 0x800 then ⟨#[b (0xC0 + c / 64), b (0x80 + c % 64)]⟩
      else if c < 0x10000 then ⟨#[b (0xE0 + c / 4096), b (0x80 + c / 64 % 64), b (0x80 + c % 64)]⟩
      else ⟨#[b (0xF0 + c / 262144), b (0x80 + c / 4096 % 64), b (0x80 + c / 64 % 64), b (0x80 + c % 64)]⟩) := by
    refine ⟨if Utf8.valid r then r.toNat else Utf8.runeError, ?_, ?_, rfl⟩
    · split
      · omega
      · decide
    · split
      · rename_i hv
        simp only [Utf8.valid, Bool.or_eq_true, Bool.and_eq_true, decide_eq_true_eq] at hv
        omega
      · decide
  obtain ⟨c, h1, h2, e⟩ := hc
  rw [e]
  simp only
  split
  · exfalso; omega
  split
  · refine ⟨by show 2 ≤ Array.size _; simp, ?_⟩
    intro k hk
    match k, hk with
    | 0, _ => show 128 ≤ (UInt8.ofNat (192 + c / 64)).toNat; rw [UInt8.toNat_ofNat']; omega
    | 1, _ => show 128 ≤ (UInt8.ofNat (128 + c % 64)).toNat; rw [UInt8.toNat_ofNat']; omega
  · split
    · refine ⟨by show 2 ≤ Array.size _; simp, ?_⟩
      intro k hk
      match k, hk with
      | 0, _ => show 128 ≤ (UInt8.ofNat (224 + c / 4096)).toNat; rw [UInt8.toNat_ofNat']; omega
      | 1, _ => show 128 ≤ (UInt8.ofNat (128 + c / 64 % 64)).toNat; rw [UInt8.toNat_ofNat']; omega
      | 2, _ => show 128 ≤ (UInt8.ofNat (128 + c % 64)).toNat; rw [UInt8.toNat_ofNat']; omega
    · refine ⟨by show 2 ≤ Array.size _; simp, ?_⟩
      intro k hk
      match k, hk with
      | 0, _ => show 128 ≤ (UInt8.ofNat (240 + c / 262144)).toNat; rw [UInt8.toNat_ofNat']; omega
      | 1, _ => show 128 ≤ (UInt8.ofNat (128 + c / 4096 % 64)).toNat; rw [UInt8.toNat_ofNat']; omega
      | 2, _ => show 128 ≤ (UInt8.ofNat (128 + c / 64 % 64)).toNat; rw [UInt8.toNat_ofNat']; omega
      | 3, _ => show 128 ≤ (UInt8.ofNat (128 + c % 64)).toNat; rw [UInt8.toNat_ofNat']; omega
set_option maxRecDepth 100000 in
theorem rune_none (r : Int) (h : 128 ≤ r) (h2 : r ≤ 2147483647) (w : World) :
    Calls Tryz.prog 82 #[.string ⟨#[47, 63]⟩, .int .i32 r] w fun e w' => e = .returned (.int .i64 (-1)) ∧ Below w.heap.size w w' := by
  have h0 : 0 ≤ r := by omega
  have h1 : ¬ r < 128 := by omega
  by_cases he : r = 65533
  · subst he
    have n0 := fun (w : World) ty => run_next_ascii (P := Tryz.prog) w ⟨#[47, 63]⟩ 0 ty (by decide) (by decide)
    have n1 := fun (w : World) ty => run_next_ascii (P := Tryz.prog) w ⟨#[47, 63]⟩ 1 ty (by decide) (by decide)
    have n2 := fun (w : World) ty => run_next_end (P := Tryz.prog) w ⟨#[47, 63]⟩ 2 ty (by decide)
    go_enter Tryz.func82, Tryz.ntmps82
    go_wp2_with fail
    refine wp_loop_rounds 3 ?_
    rw [rounds_succ]
    go_wp2_with fail
    rw [rounds_succ]
    go_wp2_with fail
    rw [rounds_succ]
    go_wp2_with fail
    go_ret
    refine ⟨rfl, ?_⟩
    unfold World.iter
    exact (Below.refl _ _).alloc (Nat.le_refl _) _
  · have HV := Lib.hid (fun w => Tryz.utf8_ValidRune r w)
    have HE := Lib.hid (encode_highQ r h)
    obtain ⟨vb, hvb⟩ : ∃ b, Lib.validRune r = b := ⟨_, rfl⟩
    rw [hvb] at HV
    clear hvb
    cases vb
    · go_enter Tryz.func82, Tryz.ntmps82
      go_wp2_with fail
      refine (HV.out _).mono ?_; rintro e w1 ⟨rfl, rfl⟩
      go_wp2_with fail
      go_ret
      exact ⟨rfl, Below.refl _ _⟩
    · obtain ⟨rs, hrs⟩ : ∃ rs : ByteArray, Utf8.encode r = rs := ⟨_, rfl⟩
      rw [hrs] at HE
      have hsz : 2 ≤ rs.size := HE.out.1
      have hsz4 : rs.size ≤ 1000 := by rw [← hrs]; have := encode_size_le r; omega
      have HX := Lib.hid (fun (s : ByteArray) (c : Int) (w : World) => Tryz.strings_IndexByte s c w)
      by_cases hs2 : rs.size = 2
      · have hl : 128 ≤ (rs[1]'(by omega)).toNat := HE.out.2 1 (by omega)
        go_enter Tryz.func82, Tryz.ntmps82
        go_wp2_with fail
        refine (HV.out _).mono ?_; rintro e w1 ⟨rfl, rfl⟩
        go_wp2_with fail
        have hne : (((⟨#[47, 63]⟩ : ByteArray)[1]'(by decide)).toNat : Int) = 63 := rfl
        have hwr : IntKind.i64.wrap 2 = 2 := by decide
        have hib : ∀ c : UInt8, Lib.indexByte [] c = -1 := fun _ => rfl
        have hl1 : ¬ ((63 : Int) = ((rs[1]'(by omega)).toNat : Int)) := by omega
        go_step3
        go_wp2_with fail
        refine wp_loop_rounds 1 ?_
        rw [rounds_succ]
        go_wp2_with fail
        go_step3
        go_wp2_with fail
        go_quiet (fail)
        go_wp2_with fail
        go_region_held3 (fun W => Below w1.heap.size w1 W) (first | assumption | exact ⟨rfl, rfl, rfl, Nat.le_refl _, fun _ _ => rfl⟩) (first | (go_at_call 117; refine (HX.out _ _ _).mono ?_; rintro e w3 ⟨rfl, rfl⟩) | fail)
        rename_i hS
        go_wp2_with fail
        rw [Exit.noGoto_ret]
        go_wp2_with fail
        rw [Exit.noGoto_ret]
        go_ret
        exact ⟨rfl, hS⟩
      · have hs3 : 3 ≤ rs.size := by omega
        go_enter Tryz.func82, Tryz.ntmps82
        go_wp2_with fail
        refine (HV.out _).mono ?_; rintro e w1 ⟨rfl, rfl⟩
        go_wp2_with fail
        have hlt : decide ((rs.size : Int) - 1 < 2) = false := by simp; omega
        have hlt2 : ¬ ((rs.size : Int) - 1 < 2) := by omega
        go_step3
        go_wp2_with fail
        refine wp_loop_rounds 1 ?_
        rw [rounds_succ]
        go_wp2_with fail
        rw [Exit.noGoto_ret]
        go_ret
        exact ⟨rfl, Below.refl _ _⟩
end Go.Proofs.YtjhgiojmlkeccaaGreatDoor
namespace Go.Proofs.YtjhgiojmlkeccaaGreatDoor
open Go.RowKit
theorem decode_width (s : ByteArray) (i : Nat) (h : i < s.size) : (1 < (Utf8.decode s i).2 → 128 ≤ (s.get! (i + 1)).toNat) ∧ (2 < (Utf8.decode s i).2 → 128 ≤ (s.get! (i + 2)).toNat) ∧ (3 < (Utf8.decode s i).2 → 128 ≤ (s.get! (i + 3)).toNat) ∧ (Utf8.decode s i).2 ≤ 4 ∧ i + (Utf8.decode s i).2 ≤ s.size := by
  simp only [Utf8.decode]
  repeat' split
  all_goals simp_all [Utf8.runeError]
  all_goals omega
theorem get_bang (s : ByteArray) (j : Nat) (h : j < s.size) : s.get! j = s[j]'h := by
  simp [ByteArray.get!, getElem!_pos, h]
  rfl
theorem noAny_span (s : ByteArray) (i : Nat) (h : i < s.size) (ha : 128 ≤ (s[i]'h).toNat) (hn : Lib.NoAny s.data.toList [47, 63] i) : Lib.NoAny s.data.toList [47, 63] (i + (Utf8.decode s i).2) := by
  obtain ⟨w1, w2, w3, w4, w5⟩ := decode_width s i h
  intro j b hj hb
  by_cases hji : j < i
  · exact hn j b hji hb
  · have hjs : j < s.size := by omega
    have hbj : s[j]'hjs = b := by
      have : s.data.toList[j]? = some (s[j]'hjs) := by
        rw [List.getElem?_eq_getElem (by rw [Array.length_toList]; exact hjs)]; rfl
      rw [this] at hb
      exact Option.some.inj hb
    have h128 : 128 ≤ b.toNat := by
      rw [← hbj]
      obtain ⟨k, rfl⟩ : ∃ k, j = i + k := ⟨j - i, by omega⟩
      have hk : k = 0 ∨ k = 1 ∨ k = 2 ∨ k = 3 := by omega
      rcases hk with rfl | rfl | rfl | rfl
      · exact ha
      · have := w1 (by omega); rw [get_bang _ _ hjs] at this; exact this
      · have := w2 (by omega); rw [get_bang _ _ hjs] at this; exact this
      · have := w3 (by omega); rw [get_bang _ _ hjs] at this; exact this
    cases q : ([47, 63] : List UInt8).contains b
    · rfl
    · rw [List.contains_iff_mem] at q
      simp only [List.mem_cons, List.not_mem_nil, or_false] at q
      rcases q with q | q <;> (rw [q] at h128; exact absurd h128 (by decide))
/-- The string's iterator stands at a place; nothing older has turned. -/
def It (s : ByteArray) (B i : Nat) (w W : World) : Prop := W.heap[B]? = some (.stringIter s i) ∧ B < W.heap.size ∧ Below B w W
theorem It.start (s : ByteArray) (w : World) : It s w.heap.size 0 w (w.iter s 0) := by
  refine ⟨heap_alloc_new w _, ?_, ?_⟩
  · unfold World.iter; simp
  · unfold World.iter; exact (Below.refl _ _).alloc (Nat.le_refl _) _
theorem It.step {s : ByteArray} {B i : Nat} {w W : World} (h : It s B i w W) (j : Nat) : It s B j w (W.iterAt B s j) :=
  ⟨Lib.iterAt_heap W B s i j h.1, by rw [Lib.iterAt_size]; exact h.2.1, Lib.below_iterAt h.2.2 (Nat.le_refl _) s j⟩
theorem It.below {s : ByteArray} {B i : Nat} {w W w1 : World} (h : It s B i w W) (hB : B = w.heap.size) (hb : Below W.heap.size W w1) : It s B i w w1 :=
  ⟨(hb.block _ h.2.1).trans h.1, Nat.lt_of_lt_of_le h.2.1 hb.size, h.2.2.trans (hb.mono (Nat.le_of_lt h.2.1))⟩
set_option maxRecDepth 100000 in
theorem any_short (s : ByteArray) (h8 : s.size ≤ 8) (w : World) :
    Calls Tryz.prog 97 #[.string s, .string ⟨#[47, 63]⟩] w fun e w' => e = .returned (.int .i64 (Lib.indexAny s.data.toList [47, 63])) ∧ Below w.heap.size w w' := by
  have h8z : decide ((8 : Int) < (s.size : Int)) = false := decide_eq_false (by omega)
  have HU := Lib.hid (fun (n : Int) (w : World) => Any.strings_shouldUseASCIISet { Tryz.lays153 with } n w)
  obtain ⟨r, hr⟩ : ∃ r, Lib.indexAny s.data.toList [47, 63] = r := ⟨_, rfl⟩
  have HR := Lib.hid hr
  rw [hr]
  clear hr
  go_enter Tryz.func97, Tryz.ntmps97
  go_wp2_with fail
  refine (HU.out _ _).mono ?_; rintro e w1 ⟨rfl, rfl⟩
  go_wp2_with fail
  have HS := It.start s w1
  obtain ⟨W, hW⟩ : ∃ W, w1.iter s 0 = W := ⟨_, rfl⟩
  rw [hW] at HS
  rw [hW]
  have HS2 := Lib.hid HS
  clear hW HS
  go_loopg [9, 10] s.size (fun g _ _ wx => ∃ i : Nat, i + g = s.size ∧ Hid (It s w1.heap.size i w1 wx) ∧ Hid (Lib.NoAny s.data.toList [47, 63] i))
  case atStart => exact ⟨0, by omega, HS2, Lib.hid (Lib.NoAny.zero _ _)⟩
  case round =>
    rename World => wo
    obtain ⟨i, hig, HT, HN⟩ := hrel
    by_cases hi : i < s.size
    · have hnx := fun ty => Lib.run_next_any_at (P := Tryz.prog) wo w1.heap.size s i ty HT.out.1 hi
      by_cases ha : (s[i]'hi).toNat < 128
      · rw [decode_ascii s i hi ha] at hnx
        obtain ⟨x, hx⟩ : ∃ x : UInt8, s[i]'hi = x := ⟨_, rfl⟩
        simp only [hx] at hnx ha
        have hxl : s.data.toList[i]? = some x := by
          rw [← hx, List.getElem?_eq_getElem (by rw [Array.length_toList]; exact hi)]; rfl
        have HL := Lib.hid hxl
        have HI := Lib.hid (fun w => Tryz.strings_IndexRune_ascii ⟨#[47, 63]⟩ (x.toNat : Int) w (by omega) (by omega))
        have hback : ((x.toNat : Int)).toNat.toUInt8 = x := by simp
        rw [hback, show (⟨#[47, 63]⟩ : ByteArray).data.toList = [47, 63] from rfl] at HI
        clear hx hxl hback
        have HT2 := Lib.hid (HT.out.step (i + 1))
        have hcon := contains_one [47, 63] x
        cases hin : ([47, 63] : List UInt8).contains x with
        | false =>
          rw [hin] at hcon
          have hlt : Lib.indexByte [47, 63] x < 0 := by simpa using hcon
          have HN2 := Lib.hid (HN.out.succ HL.out hin)
          clear hcon hin
          generalize Lib.indexByte [47, 63] x = q at *
          obtain ⟨g, rfl⟩ : ∃ g, gk = g + 1 := ⟨gk - 1, by omega⟩
          go_wp2_with fail
          refine (HI.out _).mono ?_; rintro e w2 ⟨rfl, rfl⟩
          go_wp2_with fail
          go_roundg g
          case measure => omega
          case rel => exact ⟨i + 1, by omega, HT2, HN2⟩
        | true =>
          rw [hin] at hcon
          have hge : 0 ≤ Lib.indexByte [47, 63] x := by simpa using hcon
          have HF : Hid ((i : Int) = r) := Lib.hid (by rw [← HR.out]; exact (Lib.indexAny_hit HN.out HL.out hin).symm)
          clear hcon hin
          generalize Lib.indexByte [47, 63] x = q at *
          go_wp2_with fail
          refine (HI.out _).mono ?_; rintro e w2 ⟨rfl, rfl⟩
          go_wp2_with fail
          go_ret
          exact ⟨ret_iQ HF.out, HT2.out.2.2⟩
      · have hd := decode_high s i hi (by omega)
        have hle := decode_le s i
        have hwd := (decode_width s i hi).2.2.2.2
        have HN2 := Lib.hid (noAny_span s i hi (by omega) HN.out)
        have HT2 := Lib.hid (HT.out.step (i + (Utf8.decode s i).2))
        clear HN ha
        obtain ⟨d1, d2⟩ := hd
        generalize (Utf8.decode s i).1 = c at *
        generalize (Utf8.decode s i).2 = k at *
        have HI := Lib.hid (fun w => rune_none (c : Int) (by omega) (by omega) w)
        obtain ⟨g, rfl⟩ : ∃ g, gk = g + k := ⟨gk - k, by omega⟩
        go_wp2_with fail
        refine (HI.out _).mono ?_; rintro e w2 ⟨rfl, hb⟩
        have HT3 := Lib.hid (HT2.out.below rfl hb)
        clear hb
        go_wp2_with fail
        go_roundg g
        case measure => omega
        case rel => exact ⟨i + k, by omega, HT3, HN2⟩
    · obtain rfl : i = s.size := by omega
      have hnx := fun ty => Lib.run_next_end_at (P := Tryz.prog) wo w1.heap.size s s.size ty HT.out.1 (Nat.lt_irrefl _)
      have HF : Hid ((-1 : Int) = r) := Lib.hid (by rw [← HR.out]; exact (Lib.indexAny_none (by rw [len_size]; exact HN.out)).symm)
      go_wp2_with fail
      go_ret
      exact ⟨ret_iQ HF.out, HT.out.2.2⟩
theorem any_any (s : ByteArray) (hs : s.size ≤ 1000000) (w : World) :
    Calls Tryz.prog 97 #[.string s, .string ⟨#[47, 63]⟩] w fun e w' => e = .returned (.int .i64 (Lib.indexAny s.data.toList [47, 63])) ∧ Below w.heap.size w w' := by
  rcases Nat.lt_or_ge 8 s.size with h | h
  · refine (Tryz.strings_IndexAny_long (fun _ => by kernel_rfl) s ⟨#[47, 63]⟩ w (by decide) h (by omega) (by decide) (ascii_of_all (by decide))).mono ?_
    rintro e w' ⟨he, rfl⟩
    exact ⟨he, ((Below.refl _ _).alloc (Nat.le_refl _) _).alloc (by simp) _⟩
  · exact any_short s h w
end Go.Proofs.YtjhgiojmlkeccaaGreatDoor
