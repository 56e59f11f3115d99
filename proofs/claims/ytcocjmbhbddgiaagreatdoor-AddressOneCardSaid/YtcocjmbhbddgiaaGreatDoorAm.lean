/- The walk through tell (address): the builder's bytes and the address's cells, carried from call to call. -/
import Derived.Test.YtcocjmbhbddgiaaGreatDoorAl
import Derived.Test.YtcocjmbhbddgiaaGreatDoorShelf
set_option linter.unusedSimpArgs false
set_option linter.unusedVariables false
namespace Go.Proofs.YtcocjmbhbddgiaaGreatDoor
open Go.RowKit
/-- tell's state: the address's cells, the builder's bytes. -/
def TSt (sc us ho po pa qu : ByteArray) (hu hq : Bool) (w W : World) (bs : List UInt8) : Prop :=
  W.heap[w.heap.size]? = some (.cells #[.string sc, .string us, .string ho, .string po, .string pa, .string qu, .bool hu, .bool hq] 23 (0, 0)) ∧ Lib.IsBuilder 66 5 (w.heap.size + 1) (w.heap.size + 1) (Lib.byteCells bs) W ∧ w.heap.size + 2 ≤ W.heap.size ∧ Below w.heap.size w W
theorem tput {sc us ho po pa qu : ByteArray} {hu hq : Bool} {w W : World} {bs : List UInt8} (h : TSt sc us ho po pa qu hu hq w W bs) (b : Bool) (L : List ByteArray) (n m : Nat) (A : Array Value) (hA : A = (L.map Value.string).toArray) (hm : m = W.heap.size) (hL : L.length = n) (hn : n ≤ 8) (hbs : bs.length + (flat L).length ≤ 100000000) :
    Calls Tryz.prog 48 #[.bool b, .slice (some ⟨m, 0, none⟩) n n, .pointer (some ⟨w.heap.size + 1, 0, none⟩)] (W.alloc (.cells A 9)) fun e w' => e = .returned (.tuple #[]) ∧ TSt sc us ho po pa qu hu hq w w' (bs ++ if b then flat L else []) := by
  subst hm hA
  obtain ⟨ha, hb, hz, hw⟩ := h
  have hnew : (W.alloc (.cells (L.map Value.string).toArray 9)).heap[W.heap.size]? = some (.cells (L.map Value.string).toArray 9 (0, 0)) := heap_alloc_new W _
  have hold : (W.alloc (.cells (L.map Value.string).toArray 9)).heap[w.heap.size]? = some (.cells #[.string sc, .string us, .string ho, .string po, .string pa, .string qu, .bool hu, .bool hq] 23 (0, 0)) := (Below.heap_alloc W _ _ (by omega)).trans ha
  have hsz : (W.alloc (.cells (L.map Value.string).toArray 9)).heap.size = W.heap.size + 1 := by simp
  cases b with
  | true =>
    refine (put_true L W.heap.size n (0, 0) hL hn (w.heap.size + 1) (w.heap.size + 1) bs hbs _ (bld_alloc hb _) (by omega) (by intro e; injection e; omega) hnew).mono ?_
    rintro e w' ⟨rfl, hb', hbw, ho⟩
    exact ⟨rfl, (hbw.block _ (by omega)).trans hold, hb', by have := hbw.size; omega, (hw.alloc (by omega) _).trans (hbw.mono (by omega))⟩
  | false =>
    refine (put_false L W.heap.size n (0, 0) hL hn (w.heap.size + 1) _ hnew).mono ?_
    rintro e w' ⟨rfl, rfl⟩
    exact ⟨rfl, hold, by simpa using bld_alloc hb _, by omega, hw.alloc (by omega) _⟩
theorem tcells {sc us ho po pa qu : ByteArray} {hu hq : Bool} {w W : World} {bs : List UInt8} (h : TSt sc us ho po pa qu hu hq w W bs) :
    W.cell? ⟨w.heap.size, 0, none⟩ = some (.string sc) ∧ W.cell? ⟨w.heap.size, 1, none⟩ = some (.string us) ∧ W.cell? ⟨w.heap.size, 2, none⟩ = some (.string ho) ∧ W.cell? ⟨w.heap.size, 3, none⟩ = some (.string po) ∧ W.cell? ⟨w.heap.size, 4, none⟩ = some (.string pa) ∧ W.cell? ⟨w.heap.size, 5, none⟩ = some (.string qu) ∧ W.cell? ⟨w.heap.size, 6, none⟩ = some (.bool hu) ∧ W.cell? ⟨w.heap.size, 7, none⟩ = some (.bool hq) := by
  have := h.1
  refine ⟨?_, ?_, ?_, ?_, ?_, ?_, ?_, ?_⟩ <;> (rw [Lib.cell_of_heap this]; rfl)
theorem tstart (sc us ho po pa qu : ByteArray) (hu hq : Bool) (w : World) :
    TSt sc us ho po pa qu hu hq w ((w.alloc (.cells #[.string sc, .string us, .string ho, .string po, .string pa, .string qu, .bool hu, .bool hq] 23)).alloc (.cells #[.pointer none, .slice none 0 0] 66)) [] := by
  refine ⟨?_, ?_, by simp, ?_⟩
  · rw [Below.heap_alloc _ _ _ (by simp)]
    exact heap_alloc_new w _
  · have := Lib.fresh_isBuilder 66 5 (w.alloc (.cells #[.string sc, .string us, .string ho, .string po, .string pa, .string qu, .bool hu, .bool hq] 23))
    simpa [Lib.byteCells] using this
  · exact ((Below.refl _ _).alloc (Nat.le_refl _) _).alloc (by simp) _
theorem ret_str {l m : List UInt8} (h : l = m) : Ending.returned (.string ⟨l.toArray⟩) = .returned (.string ⟨m.toArray⟩) := by rw [h]
theorem flat1 (a : ByteArray) : flat [a] = a.data.toList := by simp [flat]
theorem flat2 (a b : ByteArray) : flat [a, b] = a.data.toList ++ b.data.toList := by simp [flat]
theorem len_size (a : ByteArray) : a.data.toList.length = a.size := by rw [Array.length_toList]; rfl
/-- What tell has written, call by call. -/
theorem tell_parts (sc us ho po pa qu : List UInt8) (hu hq bp : Bool) (hb : bp = !po.isEmpty) :
    [] ++ (sc ++ [58, 47, 47]) ++ (if hu then us ++ [64] else []) ++ ho ++ (if bp then [58] ++ po else []) ++ pa ++ (if hq then [63] ++ qu else []) = tellL sc us ho po pa qu hu hq := by
  subst hb
  unfold tellL
  cases po <;> simp
set_option maxRecDepth 100000 in
set_option maxHeartbeats 2000000 in
theorem tell_any (sc us ho po pa qu : ByteArray) (hu hq : Bool) (h1 : sc.size ≤ 100000) (h2 : us.size ≤ 100000) (h3 : ho.size ≤ 100000) (h4 : po.size ≤ 100000) (h5 : pa.size ≤ 100000) (h6 : qu.size ≤ 100000) (w : World) :
    Calls Tryz.prog 21 #[.agg #[.string sc, .string us, .string ho, .string po, .string pa, .string qu, .bool hu, .bool hq]] w fun e w' => e = .returned (.string ⟨(tellL sc.data.toList us.data.toList ho.data.toList po.data.toList pa.data.toList qu.data.toList hu hq).toArray⟩) ∧ Below w.heap.size w w' := by
  have e1 := len_size sc
  have e2 := len_size us
  have e3 := len_size ho
  have e4 := len_size po
  have e5 := len_size pa
  have e6 := len_size qu
  obtain ⟨bp, hbp, hpe⟩ : ∃ bp : Bool, bp = (!po.data.toList.isEmpty) ∧ ((po.toList.isEmpty = false ∧ bp = true ∧ ¬ po.toList = []) ∨ (po.toList.isEmpty = true ∧ bp = false ∧ po.toList = [])) := by
    refine ⟨_, rfl, ?_⟩
    rcases empty_iff po with ⟨_, a, b, c⟩ | ⟨_, a, b, c⟩
    · left; exact ⟨b, by rw [c]; rfl, a⟩
    · right; exact ⟨b, by rw [c]; rfl, a⟩
  have HB := Lib.hid hbp
  have E1 := Lib.hid e1
  have E2 := Lib.hid e2
  have E3 := Lib.hid e3
  have E4 := Lib.hid e4
  have E5 := Lib.hid e5
  have E6 := Lib.hid e6
  have T0 := Lib.hid (tstart sc us ho po pa qu hu hq w)
  clear e1 e2 e3 e4 e5 e6 hbp
  have BND1 : Hid ((([] : List UInt8)).length + (flat [sc, ⟨#[58, 47, 47]⟩]).length ≤ 100000000) := Lib.hid (by
    have q1 := E1.out
    have q2 := E2.out
    have q3 := E3.out
    have q4 := E4.out
    have q5 := E5.out
    have q6 := E6.out
    simp only [flat1, flat2, List.length_append, List.length_nil, apply_ite List.length]
    simp only [List.length_cons, List.length_nil]
    repeat' split
    all_goals omega)
  have BND2 : Hid (((([] : List UInt8) ++ (if (true : Bool) = true then flat [sc, ⟨#[58, 47, 47]⟩] else []))).length + (flat [us, ⟨#[64]⟩]).length ≤ 100000000) := Lib.hid (by
    have q1 := E1.out
    have q2 := E2.out
    have q3 := E3.out
    have q4 := E4.out
    have q5 := E5.out
    have q6 := E6.out
    simp only [flat1, flat2, List.length_append, List.length_nil, apply_ite List.length]
    simp only [List.length_cons, List.length_nil]
    repeat' split
    all_goals omega)
  have BND3 : Hid ((((([] : List UInt8) ++ (if (true : Bool) = true then flat [sc, ⟨#[58, 47, 47]⟩] else [])) ++ (if hu = true then flat [us, ⟨#[64]⟩] else []))).length + (flat [ho]).length ≤ 100000000) := Lib.hid (by
    have q1 := E1.out
    have q2 := E2.out
    have q3 := E3.out
    have q4 := E4.out
    have q5 := E5.out
    have q6 := E6.out
    simp only [flat1, flat2, List.length_append, List.length_nil, apply_ite List.length]
    simp only [List.length_cons, List.length_nil]
    repeat' split
    all_goals omega)
  have BND4 : Hid (((((([] : List UInt8) ++ (if (true : Bool) = true then flat [sc, ⟨#[58, 47, 47]⟩] else [])) ++ (if hu = true then flat [us, ⟨#[64]⟩] else [])) ++ (if (true : Bool) = true then flat [ho] else []))).length + (flat [⟨#[58]⟩, po]).length ≤ 100000000) := Lib.hid (by
    have q1 := E1.out
    have q2 := E2.out
    have q3 := E3.out
    have q4 := E4.out
    have q5 := E5.out
    have q6 := E6.out
    simp only [flat1, flat2, List.length_append, List.length_nil, apply_ite List.length]
    simp only [List.length_cons, List.length_nil]
    repeat' split
    all_goals omega)
  have BND5 : Hid ((((((([] : List UInt8) ++ (if (true : Bool) = true then flat [sc, ⟨#[58, 47, 47]⟩] else [])) ++ (if hu = true then flat [us, ⟨#[64]⟩] else [])) ++ (if (true : Bool) = true then flat [ho] else [])) ++ (if bp = true then flat [⟨#[58]⟩, po] else []))).length + (flat [pa]).length ≤ 100000000) := Lib.hid (by
    have q1 := E1.out
    have q2 := E2.out
    have q3 := E3.out
    have q4 := E4.out
    have q5 := E5.out
    have q6 := E6.out
    simp only [flat1, flat2, List.length_append, List.length_nil, apply_ite List.length]
    simp only [List.length_cons, List.length_nil]
    repeat' split
    all_goals omega)
  have BND6 : Hid (((((((([] : List UInt8) ++ (if (true : Bool) = true then flat [sc, ⟨#[58, 47, 47]⟩] else [])) ++ (if hu = true then flat [us, ⟨#[64]⟩] else [])) ++ (if (true : Bool) = true then flat [ho] else [])) ++ (if bp = true then flat [⟨#[58]⟩, po] else [])) ++ (if (true : Bool) = true then flat [pa] else []))).length + (flat [⟨#[63]⟩, qu]).length ≤ 100000000) := Lib.hid (by
    have q1 := E1.out
    have q2 := E2.out
    have q3 := E3.out
    have q4 := E4.out
    have q5 := E5.out
    have q6 := E6.out
    simp only [flat1, flat2, List.length_append, List.length_nil, apply_ite List.length]
    simp only [List.length_cons, List.length_nil]
    repeat' split
    all_goals omega)
  rcases hpe with ⟨k1, rfl, k3⟩ | ⟨k1, rfl, k3⟩
  all_goals
    go_enter Tryz.func21, Tryz.ntmps21
    go_wp2_with fail
    refine (tput T0.out true [sc, ⟨#[58, 47, 47]⟩] 2 _ #[.string sc, .string ⟨#[58, 47, 47]⟩] rfl (by simp) rfl (by omega) BND1.out).mono ?_
    rintro e w1 ⟨rfl, t1⟩
    obtain ⟨c0, c1, c2, c3, c4, c5, c6, c7⟩ := tcells t1
    have hz1 := t1.2.2.1
    have T1 := Lib.hid t1
    clear t1
    go_wp2_with fail
    refine (tput T1.out hu [us, ⟨#[64]⟩] 2 _ #[.string us, .string ⟨#[64]⟩] rfl (by simp) rfl (by omega) BND2.out).mono ?_
    rintro e w2 ⟨rfl, t2⟩
    clear c0 c1 c2 c3 c4 c5 c6 c7 hz1
    obtain ⟨c0, c1, c2, c3, c4, c5, c6, c7⟩ := tcells t2
    have hz2 := t2.2.2.1
    have T2 := Lib.hid t2
    clear t2
    go_wp2_with fail
    refine (tput T2.out true [ho] 1 _ #[.string ho] rfl (by simp) rfl (by omega) BND3.out).mono ?_
    rintro e w3 ⟨rfl, t3⟩
    clear c0 c1 c2 c3 c4 c5 c6 c7 hz2
    obtain ⟨c0, c1, c2, c3, c4, c5, c6, c7⟩ := tcells t3
    have hz3 := t3.2.2.1
    have T3 := Lib.hid t3
    clear t3
    go_wp2_with fail
    refine (tput T3.out _ [⟨#[58]⟩, po] 2 _ #[.string ⟨#[58]⟩, .string po] rfl (by simp) rfl (by omega) BND4.out).mono ?_
    rintro e w4 ⟨rfl, t4⟩
    clear c0 c1 c2 c3 c4 c5 c6 c7 hz3
    obtain ⟨c0, c1, c2, c3, c4, c5, c6, c7⟩ := tcells t4
    have hz4 := t4.2.2.1
    have T4 := Lib.hid t4
    clear t4
    go_wp2_with fail
    refine (tput T4.out true [pa] 1 _ #[.string pa] rfl (by simp) rfl (by omega) BND5.out).mono ?_
    rintro e w5 ⟨rfl, t5⟩
    clear c0 c1 c2 c3 c4 c5 c6 c7 hz4
    obtain ⟨c0, c1, c2, c3, c4, c5, c6, c7⟩ := tcells t5
    have hz5 := t5.2.2.1
    have T5 := Lib.hid t5
    clear t5
    go_wp2_with fail
    refine (tput T5.out hq [⟨#[63]⟩, qu] 2 _ #[.string ⟨#[63]⟩, .string qu] rfl (by simp) rfl (by omega) BND6.out).mono ?_
    rintro e w6 ⟨rfl, t6⟩
    clear c0 c1 c2 c3 c4 c5 c6 c7 hz5
    obtain ⟨c0, c1, c2, c3, c4, c5, c6, c7⟩ := tcells t6
    have hz6 := t6.2.2.1
    have T6 := Lib.hid t6
    clear t6
    go_wp2_with fail
    refine (Tryz.Builder_String_any _ _ _ _ T6.out.2.1 (by omega)).mono ?_
    rintro e w7 ⟨rfl, hb7⟩
    have hfin : Below w.heap.size w w7 := T6.out.2.2.2.trans (hb7.mono (by omega))
    clear c0 c1 c2 c3 c4 c5 c6 c7
    go_wp2_with fail
    all_goals
      go_ret
      refine ⟨ret_str ?_, hfin⟩
      refine Eq.trans ?_ (tell_parts _ _ _ _ _ _ _ _ _ HB.out)
      simp [flat1, flat2]
end Go.Proofs.YtcocjmbhbddgiaaGreatDoor
