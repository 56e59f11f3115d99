/- The walk through Parse (address), over its callees' contracts. -/
import Derived.Test.YtcocjmbhbddgiaaGreatDoorAv
set_option linter.unusedSimpArgs false
set_option linter.unusedVariables false
namespace Go.Proofs.YtcocjmbhbddgiaaGreatDoor
open Go.RowKit
/-- A call that computes, and turns nothing older. -/
def Does (f : Nat) (args : Array Value) (v : Value) : Prop := ∀ w : World, Calls Tryz.prog f args w fun e w' => e = .returned v ∧ Below w.heap.size w w'
theorem pcells {b : Nat} {W : World} {v0 v1 v2 v3 v4 v5 v6 v7 : Value} (h : W.heap[b]? = some (.cells #[v0, v1, v2, v3, v4, v5, v6, v7] 23 (0, 0))) :
    (W.cell? ⟨b, 0, none⟩ = some v0 ∧ W.cell? ⟨b, 1, none⟩ = some v1 ∧ W.cell? ⟨b, 2, none⟩ = some v2 ∧ W.cell? ⟨b, 3, none⟩ = some v3 ∧ W.cell? ⟨b, 4, none⟩ = some v4 ∧ W.cell? ⟨b, 5, none⟩ = some v5 ∧ W.cell? ⟨b, 6, none⟩ = some v6 ∧ W.cell? ⟨b, 7, none⟩ = some v7) ∧
    (W.frozen? ⟨b, 0, none⟩ = false ∧ W.frozen? ⟨b, 1, none⟩ = false ∧ W.frozen? ⟨b, 2, none⟩ = false ∧ W.frozen? ⟨b, 3, none⟩ = false ∧ W.frozen? ⟨b, 4, none⟩ = false ∧ W.frozen? ⟨b, 5, none⟩ = false ∧ W.frozen? ⟨b, 6, none⟩ = false ∧ W.frozen? ⟨b, 7, none⟩ = false) ∧ b < W.heap.size := by
  refine ⟨⟨?_, ?_, ?_, ?_, ?_, ?_, ?_, ?_⟩, ⟨Lib.frozen_of_heap h 0, Lib.frozen_of_heap h 1, Lib.frozen_of_heap h 2, Lib.frozen_of_heap h 3, Lib.frozen_of_heap h 4, Lib.frozen_of_heap h 5, Lib.frozen_of_heap h 6, Lib.frozen_of_heap h 7⟩, (Array.getElem?_eq_some_iff.1 h).1⟩
  all_goals (rw [Lib.cell_of_heap h]; rfl)
theorem pset {b i : Nat} {W : World} {A A' : Array Value} {T : TypeId} (h : W.heap[b]? = some (.cells A T (0, 0))) (v : Value) (hA : A.setIfInBounds i v = A') : (W.setCell ⟨b, i, none⟩ v).heap[b]? = some (.cells A' T (0, 0)) := by
  subst hA
  have hlt : b < W.heap.size := (Array.getElem?_eq_some_iff.1 h).1
  simp only [World.setCell, Array.getElem?_modify]
  simp [h]
set_option maxRecDepth 100000 in
theorem parse_no (s a1 b1 r2 : ByteArray) (f1 f2 : Bool) (H1 : Hid (Does 12 #[.string s, .string ⟨#[58]⟩] (.tuple #[.string a1, .string b1, .bool f1]))) (H2 : Hid (Does 13 #[.string b1, .string ⟨#[47, 47]⟩] (.tuple #[.string r2, .bool f2]))) (hno : f1 = false ∨ (f1 = true ∧ f2 = false) ∨ (f1 = true ∧ f2 = true ∧ 2048 < s.size)) (hs : s.size ≤ 1000000) (w : World) :
    Calls Tryz.prog 5 #[.string s] w fun e w' => e = .returned (.tuple #[.agg #[.string ⟨#[]⟩, .string ⟨#[]⟩, .string ⟨#[]⟩, .string ⟨#[]⟩, .string ⟨#[]⟩, .string ⟨#[]⟩, .bool false, .bool false], .int .i64 150]) ∧ Below w.heap.size w w' := by
  rcases hno with rfl | ⟨rfl, rfl⟩ | ⟨rfl, rfl, hlen⟩
  all_goals
    go_enter Tryz.func5, Tryz.ntmps5
    go_wp2_with fail
    refine (H1.out _).mono ?_; rintro e w1 ⟨rfl, hb1⟩
    have hh : w1.heap[w.heap.size]? = some (.cells #[.string ⟨#[]⟩, .string ⟨#[]⟩, .string ⟨#[]⟩, .string ⟨#[]⟩, .string ⟨#[]⟩, .string ⟨#[]⟩, .bool false, .bool false] 23 (0, 0)) := (hb1.block _ (by simp)).trans (heap_alloc_new w _)
    have hbw : Below w.heap.size w w1 := ((Below.refl _ _).alloc (Nat.le_refl _) _).trans (hb1.mono (by simp))
    clear hb1
    go_wp2_with fail
    refine (H2.out _).mono ?_; rintro e w2 ⟨rfl, hb2⟩
    have hh2 := (hb2.block _ (Array.getElem?_eq_some_iff.1 hh).1).trans hh
    have hbw2 : Below w.heap.size w w2 := hbw.trans (hb2.mono hbw.size)
    clear hb2 hh hbw
    obtain ⟨⟨c0, c1, c2, c3, c4, c5, c6, c7⟩, ⟨g0, g1, g2, g3, g4, g5, g6, g7⟩, hz⟩ := pcells hh2
    clear hh2
    go_wp2_with fail
    refine bodyPost_ret (v := .tuple #[.agg #[.string ⟨#[]⟩, .string ⟨#[]⟩, .string ⟨#[]⟩, .string ⟨#[]⟩, .string ⟨#[]⟩, .string ⟨#[]⟩, .bool false, .bool false], .int .i64 150]) (by simp [results, Tryz.results5, go_sem, *]) rfl ⟨rfl, ?_⟩
    go_grown
set_option maxRecDepth 100000 in
set_option maxHeartbeats 4000000 in
theorem parse_go (s a1 b1 r2 hd rt a3 b3 hd2 us ho po pa qu : ByteArray) (f3 f4 hq : Bool) (ix ck : Int) (H1 : Hid (Does 12 #[.string s, .string ⟨#[58]⟩] (.tuple #[.string a1, .string b1, .bool true]))) (H2 : Hid (Does 13 #[.string b1, .string ⟨#[47, 47]⟩] (.tuple #[.string r2, .bool true]))) (H3 : Hid (Does 14 #[.string r2, .string ⟨#[47, 63]⟩] (.int .i64 ix))) (H4 : Hid (Does 12 #[.string hd, .string ⟨#[64]⟩] (.tuple #[.string a3, .string b3, .bool f3]))) (H5 : Hid (Does 12 #[.string hd2, .string ⟨#[58]⟩] (.tuple #[.string ho, .string po, .bool f4]))) (H6 : Hid (Does 12 #[.string rt, .string ⟨#[63]⟩] (.tuple #[.string pa, .string qu, .bool hq]))) (H7 : Hid (Does 15 #[.agg #[.string a1, .string us, .string ho, .string po, .string pa, .string qu, .bool f3, .bool hq]] (.int .i64 ck)))
    (hlen : s.size ≤ 2048) (hr : r2.size ≤ 4000) (hix : (ix < 0 ∧ hd = r2 ∧ rt = ⟨#[]⟩) ∨ (∃ n : Nat, ix = n ∧ n ≤ r2.size ∧ hd = r2.extract 0 n ∧ rt = r2.extract n r2.size)) (hf : (f3 = true ∧ us = a3 ∧ hd2 = b3) ∨ (f3 = false ∧ us = ⟨#[]⟩ ∧ hd2 = hd)) (hk : ck = 0 ∨ ck = 150) (w : World) :
    Calls Tryz.prog 5 #[.string s] w fun e w' => e = .returned (if ck = 0 then .tuple #[.agg #[.string a1, .string us, .string ho, .string po, .string pa, .string qu, .bool f3, .bool hq], .int .i64 0] else .tuple #[.agg #[.string ⟨#[]⟩, .string ⟨#[]⟩, .string ⟨#[]⟩, .string ⟨#[]⟩, .string ⟨#[]⟩, .string ⟨#[]⟩, .bool false, .bool false], .int .i64 150]) ∧ Below w.heap.size w w' := by
  go_enter Tryz.func5, Tryz.ntmps5
  go_wp2_with fail
  have hh0 : (w.alloc (.cells #[.string ⟨#[]⟩, .string ⟨#[]⟩, .string ⟨#[]⟩, .string ⟨#[]⟩, .string ⟨#[]⟩, .string ⟨#[]⟩, .bool false, .bool false] 23)).heap[w.heap.size]? = some (.cells #[.string ⟨#[]⟩, .string ⟨#[]⟩, .string ⟨#[]⟩, .string ⟨#[]⟩, .string ⟨#[]⟩, .string ⟨#[]⟩, .bool false, .bool false] 23 (0, 0)) := heap_alloc_new w _
  refine (H1.out _).mono ?_; rintro e w1 ⟨rfl, hb1⟩
  have hh1 : w1.heap[w.heap.size]? = some (.cells #[.string ⟨#[]⟩, .string ⟨#[]⟩, .string ⟨#[]⟩, .string ⟨#[]⟩, .string ⟨#[]⟩, .string ⟨#[]⟩, .bool false, .bool false] 23 (0, 0)) := (hb1.block _ (Array.getElem?_eq_some_iff.1 hh0).1).trans hh0
  have hbw1 : Below w.heap.size w w1 := (show Below w.heap.size w _ by first | (go_grown; done)).trans (hb1.mono (Nat.le_of_lt (Array.getElem?_eq_some_iff.1 hh0).1))
  clear hb1
  obtain ⟨⟨c0, c1, c2, c3, c4, c5, c6, c7⟩, ⟨g0, g1, g2, g3, g4, g5, g6, g7⟩, hz⟩ := pcells hh1
  have HH1 := Lib.hid hh1
  have HW1 := Lib.hid hbw1
  clear hh0
  go_wp2_with fail
  refine (H2.out _).mono ?_; rintro e w2 ⟨rfl, hb2⟩
  have hh2 : w2.heap[w.heap.size]? = some (.cells #[.string ⟨#[]⟩, .string ⟨#[]⟩, .string ⟨#[]⟩, .string ⟨#[]⟩, .string ⟨#[]⟩, .string ⟨#[]⟩, .bool false, .bool false] 23 (0, 0)) := (hb2.block _ (Array.getElem?_eq_some_iff.1 hh1).1).trans hh1
  have hbw2 : Below w.heap.size w w2 := (show Below w.heap.size w _ by first | (go_grown; done) | exact HW1.out.trans ⟨rfl, rfl, rfl, Nat.le_refl _, fun _ _ => rfl⟩).trans (hb2.mono (Nat.le_of_lt (Array.getElem?_eq_some_iff.1 hh1).1))
  clear hb2
  clear c0 c1 c2 c3 c4 c5 c6 c7 g0 g1 g2 g3 g4 g5 g6 g7 hz
  obtain ⟨⟨c0, c1, c2, c3, c4, c5, c6, c7⟩, ⟨g0, g1, g2, g3, g4, g5, g6, g7⟩, hz⟩ := pcells hh2
  have HH2 := Lib.hid hh2
  have HW2 := Lib.hid hbw2
  go_wp2_with fail
  have hh2x := pset (i := 0) hh2 (.string a1) rfl
  refine (H3.out _).mono ?_; rintro e w3 ⟨rfl, hb3⟩
  have hh3 : w3.heap[w.heap.size]? = some (.cells #[.string a1, .string ⟨#[]⟩, .string ⟨#[]⟩, .string ⟨#[]⟩, .string ⟨#[]⟩, .string ⟨#[]⟩, .bool false, .bool false] 23 (0, 0)) := (hb3.block _ (Array.getElem?_eq_some_iff.1 hh2x).1).trans hh2x
  have hbw3 : Below w.heap.size w w3 := (show Below w.heap.size w _ by first | (go_grown; done) | exact HW2.out.trans ⟨rfl, rfl, rfl, Nat.le_refl _, fun _ _ => rfl⟩).trans (hb3.mono (Nat.le_of_lt (Array.getElem?_eq_some_iff.1 hh2x).1))
  clear hb3
  clear c0 c1 c2 c3 c4 c5 c6 c7 g0 g1 g2 g3 g4 g5 g6 g7 hz
  obtain ⟨⟨c0, c1, c2, c3, c4, c5, c6, c7⟩, ⟨g0, g1, g2, g3, g4, g5, g6, g7⟩, hz⟩ := pcells hh3
  have HH3 := Lib.hid hh3
  have HW3 := Lib.hid hbw3
  clear hh1 hbw1 hh2 hbw2 hh2x
  rcases hix with ⟨hneg, rfl, rfl⟩ | ⟨n, rfl, hn, rfl, rfl⟩
  · have hneg2 : ¬ 0 ≤ ix := by omega
    go_wp2_with fail
    refine (H4.out _).mono ?_; rintro e w4 ⟨rfl, hb4⟩
    have hh4 : w4.heap[w.heap.size]? = some (.cells #[.string a1, .string ⟨#[]⟩, .string ⟨#[]⟩, .string ⟨#[]⟩, .string ⟨#[]⟩, .string ⟨#[]⟩, .bool false, .bool false] 23 (0, 0)) := (hb4.block _ (Array.getElem?_eq_some_iff.1 hh3).1).trans hh3
    have hbw4 : Below w.heap.size w w4 := (show Below w.heap.size w _ by first | (go_grown; done) | exact HW3.out.trans ⟨rfl, rfl, rfl, Nat.le_refl _, fun _ _ => rfl⟩).trans (hb4.mono (Nat.le_of_lt (Array.getElem?_eq_some_iff.1 hh3).1))
    clear hb4
    clear c0 c1 c2 c3 c4 c5 c6 c7 g0 g1 g2 g3 g4 g5 g6 g7 hz
    obtain ⟨⟨c0, c1, c2, c3, c4, c5, c6, c7⟩, ⟨g0, g1, g2, g3, g4, g5, g6, g7⟩, hz⟩ := pcells hh4
    have HH4 := Lib.hid hh4
    have HW4 := Lib.hid hbw4
    clear hh3 hbw3
    rcases hf with ⟨rfl, rfl, rfl⟩ | ⟨rfl, rfl, rfl⟩
    · go_wp2_with fail
      have hh4x := pset (i := 1) hh4 (.string us) rfl
      have hh4xx := pset (i := 6) hh4x (.bool true) rfl
      refine (H5.out _).mono ?_; rintro e w5 ⟨rfl, hb5⟩
      have hh5 : w5.heap[w.heap.size]? = some (.cells #[.string a1, .string us, .string ⟨#[]⟩, .string ⟨#[]⟩, .string ⟨#[]⟩, .string ⟨#[]⟩, .bool true, .bool false] 23 (0, 0)) := (hb5.block _ (Array.getElem?_eq_some_iff.1 hh4xx).1).trans hh4xx
      have hbw5 : Below w.heap.size w w5 := (show Below w.heap.size w _ by first | (go_grown; done) | exact HW4.out.trans ⟨rfl, rfl, rfl, Nat.le_refl _, fun _ _ => rfl⟩).trans (hb5.mono (Nat.le_of_lt (Array.getElem?_eq_some_iff.1 hh4xx).1))
      clear hb5
      clear c0 c1 c2 c3 c4 c5 c6 c7 g0 g1 g2 g3 g4 g5 g6 g7 hz
      obtain ⟨⟨c0, c1, c2, c3, c4, c5, c6, c7⟩, ⟨g0, g1, g2, g3, g4, g5, g6, g7⟩, hz⟩ := pcells hh5
      have HH5 := Lib.hid hh5
      have HW5 := Lib.hid hbw5
      clear hh4 hbw4
      go_wp2_with fail
      have hh5x := pset (i := 2) hh5 (.string ho) rfl
      have hh5xx := pset (i := 3) hh5x (.string po) rfl
      refine (H6.out _).mono ?_; rintro e w6 ⟨rfl, hb6⟩
      have hh6 : w6.heap[w.heap.size]? = some (.cells #[.string a1, .string us, .string ho, .string po, .string ⟨#[]⟩, .string ⟨#[]⟩, .bool true, .bool false] 23 (0, 0)) := (hb6.block _ (Array.getElem?_eq_some_iff.1 hh5xx).1).trans hh5xx
      have hbw6 : Below w.heap.size w w6 := (show Below w.heap.size w _ by first | (go_grown; done) | exact HW5.out.trans ⟨rfl, rfl, rfl, Nat.le_refl _, fun _ _ => rfl⟩).trans (hb6.mono (Nat.le_of_lt (Array.getElem?_eq_some_iff.1 hh5xx).1))
      clear hb6
      clear c0 c1 c2 c3 c4 c5 c6 c7 g0 g1 g2 g3 g4 g5 g6 g7 hz
      obtain ⟨⟨c0, c1, c2, c3, c4, c5, c6, c7⟩, ⟨g0, g1, g2, g3, g4, g5, g6, g7⟩, hz⟩ := pcells hh6
      have HH6 := Lib.hid hh6
      have HW6 := Lib.hid hbw6
      clear hh5 hbw5
      go_wp2_with fail
      have hh6x := pset (i := 4) hh6 (.string pa) rfl
      have hh6xx := pset (i := 5) hh6x (.string qu) rfl
      have hh6xxx := pset (i := 7) hh6xx (.bool hq) rfl
      refine (H7.out _).mono ?_; rintro e w7 ⟨rfl, hb7⟩
      have hh7 : w7.heap[w.heap.size]? = some (.cells #[.string a1, .string us, .string ho, .string po, .string pa, .string qu, .bool true, .bool hq] 23 (0, 0)) := (hb7.block _ (Array.getElem?_eq_some_iff.1 hh6xxx).1).trans hh6xxx
      have hbw7 : Below w.heap.size w w7 := (show Below w.heap.size w _ by first | (go_grown; done) | exact HW6.out.trans ⟨rfl, rfl, rfl, Nat.le_refl _, fun _ _ => rfl⟩).trans (hb7.mono (Nat.le_of_lt (Array.getElem?_eq_some_iff.1 hh6xxx).1))
      clear hb7
      clear c0 c1 c2 c3 c4 c5 c6 c7 g0 g1 g2 g3 g4 g5 g6 g7 hz
      obtain ⟨⟨c0, c1, c2, c3, c4, c5, c6, c7⟩, ⟨g0, g1, g2, g3, g4, g5, g6, g7⟩, hz⟩ := pcells hh7
      have HH7 := Lib.hid hh7
      have HW7 := Lib.hid hbw7
      clear hh6 hbw6
      rcases hk with rfl | rfl
      · go_wp2_with fail
        refine bodyPost_ret (v := .tuple #[.agg #[.string a1, .string us, .string ho, .string po, .string pa, .string qu, .bool true, .bool hq], .int .i64 0]) (by simp [results, Tryz.results5, go_sem, *]) rfl ⟨by simp, ?_⟩
        go_grown
      · go_wp2_with fail
        refine bodyPost_ret (v := .tuple #[.agg #[.string ⟨#[]⟩, .string ⟨#[]⟩, .string ⟨#[]⟩, .string ⟨#[]⟩, .string ⟨#[]⟩, .string ⟨#[]⟩, .bool false, .bool false], .int .i64 150]) (by simp [results, Tryz.results5, go_sem, *]) rfl ⟨by simp, ?_⟩
        go_grown
    · go_wp2_with fail
      refine (H5.out _).mono ?_; rintro e w5 ⟨rfl, hb5⟩
      have hh5 : w5.heap[w.heap.size]? = some (.cells #[.string a1, .string ⟨#[]⟩, .string ⟨#[]⟩, .string ⟨#[]⟩, .string ⟨#[]⟩, .string ⟨#[]⟩, .bool false, .bool false] 23 (0, 0)) := (hb5.block _ (Array.getElem?_eq_some_iff.1 hh4).1).trans hh4
      have hbw5 : Below w.heap.size w w5 := (show Below w.heap.size w _ by first | (go_grown; done) | exact HW4.out.trans ⟨rfl, rfl, rfl, Nat.le_refl _, fun _ _ => rfl⟩).trans (hb5.mono (Nat.le_of_lt (Array.getElem?_eq_some_iff.1 hh4).1))
      clear hb5
      clear c0 c1 c2 c3 c4 c5 c6 c7 g0 g1 g2 g3 g4 g5 g6 g7 hz
      obtain ⟨⟨c0, c1, c2, c3, c4, c5, c6, c7⟩, ⟨g0, g1, g2, g3, g4, g5, g6, g7⟩, hz⟩ := pcells hh5
      have HH5 := Lib.hid hh5
      have HW5 := Lib.hid hbw5
      clear hh4 hbw4
      go_wp2_with fail
      have hh5x := pset (i := 2) hh5 (.string ho) rfl
      have hh5xx := pset (i := 3) hh5x (.string po) rfl
      refine (H6.out _).mono ?_; rintro e w6 ⟨rfl, hb6⟩
      have hh6 : w6.heap[w.heap.size]? = some (.cells #[.string a1, .string ⟨#[]⟩, .string ho, .string po, .string ⟨#[]⟩, .string ⟨#[]⟩, .bool false, .bool false] 23 (0, 0)) := (hb6.block _ (Array.getElem?_eq_some_iff.1 hh5xx).1).trans hh5xx
      have hbw6 : Below w.heap.size w w6 := (show Below w.heap.size w _ by first | (go_grown; done) | exact HW5.out.trans ⟨rfl, rfl, rfl, Nat.le_refl _, fun _ _ => rfl⟩).trans (hb6.mono (Nat.le_of_lt (Array.getElem?_eq_some_iff.1 hh5xx).1))
      clear hb6
      clear c0 c1 c2 c3 c4 c5 c6 c7 g0 g1 g2 g3 g4 g5 g6 g7 hz
      obtain ⟨⟨c0, c1, c2, c3, c4, c5, c6, c7⟩, ⟨g0, g1, g2, g3, g4, g5, g6, g7⟩, hz⟩ := pcells hh6
      have HH6 := Lib.hid hh6
      have HW6 := Lib.hid hbw6
      clear hh5 hbw5
      go_wp2_with fail
      have hh6x := pset (i := 4) hh6 (.string pa) rfl
      have hh6xx := pset (i := 5) hh6x (.string qu) rfl
      have hh6xxx := pset (i := 7) hh6xx (.bool hq) rfl
      refine (H7.out _).mono ?_; rintro e w7 ⟨rfl, hb7⟩
      have hh7 : w7.heap[w.heap.size]? = some (.cells #[.string a1, .string ⟨#[]⟩, .string ho, .string po, .string pa, .string qu, .bool false, .bool hq] 23 (0, 0)) := (hb7.block _ (Array.getElem?_eq_some_iff.1 hh6xxx).1).trans hh6xxx
      have hbw7 : Below w.heap.size w w7 := (show Below w.heap.size w _ by first | (go_grown; done) | exact HW6.out.trans ⟨rfl, rfl, rfl, Nat.le_refl _, fun _ _ => rfl⟩).trans (hb7.mono (Nat.le_of_lt (Array.getElem?_eq_some_iff.1 hh6xxx).1))
      clear hb7
      clear c0 c1 c2 c3 c4 c5 c6 c7 g0 g1 g2 g3 g4 g5 g6 g7 hz
      obtain ⟨⟨c0, c1, c2, c3, c4, c5, c6, c7⟩, ⟨g0, g1, g2, g3, g4, g5, g6, g7⟩, hz⟩ := pcells hh7
      have HH7 := Lib.hid hh7
      have HW7 := Lib.hid hbw7
      clear hh6 hbw6
      rcases hk with rfl | rfl
      · go_wp2_with fail
        refine bodyPost_ret (v := .tuple #[.agg #[.string a1, .string ⟨#[]⟩, .string ho, .string po, .string pa, .string qu, .bool false, .bool hq], .int .i64 0]) (by simp [results, Tryz.results5, go_sem, *]) rfl ⟨by simp, ?_⟩
        go_grown
      · go_wp2_with fail
        refine bodyPost_ret (v := .tuple #[.agg #[.string ⟨#[]⟩, .string ⟨#[]⟩, .string ⟨#[]⟩, .string ⟨#[]⟩, .string ⟨#[]⟩, .string ⟨#[]⟩, .bool false, .bool false], .int .i64 150]) (by simp [results, Tryz.results5, go_sem, *]) rfl ⟨by simp, ?_⟩
        go_grown
  · have hn0 : (0 : Int) ≤ n := by omega
    have hn1 : (n : Int) ≤ r2.size := by omega
    go_wp2_with fail
    go_quiet (fail)
    go_wp2_with fail
    refine (H4.out _).mono ?_; rintro e w4 ⟨rfl, hb4⟩
    have hh4 : w4.heap[w.heap.size]? = some (.cells #[.string a1, .string ⟨#[]⟩, .string ⟨#[]⟩, .string ⟨#[]⟩, .string ⟨#[]⟩, .string ⟨#[]⟩, .bool false, .bool false] 23 (0, 0)) := (hb4.block _ (Array.getElem?_eq_some_iff.1 hh3).1).trans hh3
    have hbw4 : Below w.heap.size w w4 := (show Below w.heap.size w _ by first | (go_grown; done) | exact HW3.out.trans ⟨rfl, rfl, rfl, Nat.le_refl _, fun _ _ => rfl⟩).trans (hb4.mono (Nat.le_of_lt (Array.getElem?_eq_some_iff.1 hh3).1))
    clear hb4
    clear c0 c1 c2 c3 c4 c5 c6 c7 g0 g1 g2 g3 g4 g5 g6 g7 hz
    obtain ⟨⟨c0, c1, c2, c3, c4, c5, c6, c7⟩, ⟨g0, g1, g2, g3, g4, g5, g6, g7⟩, hz⟩ := pcells hh4
    have HH4 := Lib.hid hh4
    have HW4 := Lib.hid hbw4
    clear hh3 hbw3
    rcases hf with ⟨rfl, rfl, rfl⟩ | ⟨rfl, rfl, rfl⟩
    · go_wp2_with fail
      have hh4x := pset (i := 1) hh4 (.string us) rfl
      have hh4xx := pset (i := 6) hh4x (.bool true) rfl
      refine (H5.out _).mono ?_; rintro e w5 ⟨rfl, hb5⟩
      have hh5 : w5.heap[w.heap.size]? = some (.cells #[.string a1, .string us, .string ⟨#[]⟩, .string ⟨#[]⟩, .string ⟨#[]⟩, .string ⟨#[]⟩, .bool true, .bool false] 23 (0, 0)) := (hb5.block _ (Array.getElem?_eq_some_iff.1 hh4xx).1).trans hh4xx
      have hbw5 : Below w.heap.size w w5 := (show Below w.heap.size w _ by first | (go_grown; done) | exact HW4.out.trans ⟨rfl, rfl, rfl, Nat.le_refl _, fun _ _ => rfl⟩).trans (hb5.mono (Nat.le_of_lt (Array.getElem?_eq_some_iff.1 hh4xx).1))
      clear hb5
      clear c0 c1 c2 c3 c4 c5 c6 c7 g0 g1 g2 g3 g4 g5 g6 g7 hz
      obtain ⟨⟨c0, c1, c2, c3, c4, c5, c6, c7⟩, ⟨g0, g1, g2, g3, g4, g5, g6, g7⟩, hz⟩ := pcells hh5
      have HH5 := Lib.hid hh5
      have HW5 := Lib.hid hbw5
      clear hh4 hbw4
      go_wp2_with fail
      have hh5x := pset (i := 2) hh5 (.string ho) rfl
      have hh5xx := pset (i := 3) hh5x (.string po) rfl
      refine (H6.out _).mono ?_; rintro e w6 ⟨rfl, hb6⟩
      have hh6 : w6.heap[w.heap.size]? = some (.cells #[.string a1, .string us, .string ho, .string po, .string ⟨#[]⟩, .string ⟨#[]⟩, .bool true, .bool false] 23 (0, 0)) := (hb6.block _ (Array.getElem?_eq_some_iff.1 hh5xx).1).trans hh5xx
      have hbw6 : Below w.heap.size w w6 := (show Below w.heap.size w _ by first | (go_grown; done) | exact HW5.out.trans ⟨rfl, rfl, rfl, Nat.le_refl _, fun _ _ => rfl⟩).trans (hb6.mono (Nat.le_of_lt (Array.getElem?_eq_some_iff.1 hh5xx).1))
      clear hb6
      clear c0 c1 c2 c3 c4 c5 c6 c7 g0 g1 g2 g3 g4 g5 g6 g7 hz
      obtain ⟨⟨c0, c1, c2, c3, c4, c5, c6, c7⟩, ⟨g0, g1, g2, g3, g4, g5, g6, g7⟩, hz⟩ := pcells hh6
      have HH6 := Lib.hid hh6
      have HW6 := Lib.hid hbw6
      clear hh5 hbw5
      go_wp2_with fail
      have hh6x := pset (i := 4) hh6 (.string pa) rfl
      have hh6xx := pset (i := 5) hh6x (.string qu) rfl
      have hh6xxx := pset (i := 7) hh6xx (.bool hq) rfl
      refine (H7.out _).mono ?_; rintro e w7 ⟨rfl, hb7⟩
      have hh7 : w7.heap[w.heap.size]? = some (.cells #[.string a1, .string us, .string ho, .string po, .string pa, .string qu, .bool true, .bool hq] 23 (0, 0)) := (hb7.block _ (Array.getElem?_eq_some_iff.1 hh6xxx).1).trans hh6xxx
      have hbw7 : Below w.heap.size w w7 := (show Below w.heap.size w _ by first | (go_grown; done) | exact HW6.out.trans ⟨rfl, rfl, rfl, Nat.le_refl _, fun _ _ => rfl⟩).trans (hb7.mono (Nat.le_of_lt (Array.getElem?_eq_some_iff.1 hh6xxx).1))
      clear hb7
      clear c0 c1 c2 c3 c4 c5 c6 c7 g0 g1 g2 g3 g4 g5 g6 g7 hz
      obtain ⟨⟨c0, c1, c2, c3, c4, c5, c6, c7⟩, ⟨g0, g1, g2, g3, g4, g5, g6, g7⟩, hz⟩ := pcells hh7
      have HH7 := Lib.hid hh7
      have HW7 := Lib.hid hbw7
      clear hh6 hbw6
      rcases hk with rfl | rfl
      · go_wp2_with fail
        refine bodyPost_ret (v := .tuple #[.agg #[.string a1, .string us, .string ho, .string po, .string pa, .string qu, .bool true, .bool hq], .int .i64 0]) (by simp [results, Tryz.results5, go_sem, *]) rfl ⟨by simp, ?_⟩
        go_grown
      · go_wp2_with fail
        refine bodyPost_ret (v := .tuple #[.agg #[.string ⟨#[]⟩, .string ⟨#[]⟩, .string ⟨#[]⟩, .string ⟨#[]⟩, .string ⟨#[]⟩, .string ⟨#[]⟩, .bool false, .bool false], .int .i64 150]) (by simp [results, Tryz.results5, go_sem, *]) rfl ⟨by simp, ?_⟩
        go_grown
    · go_wp2_with fail
      refine (H5.out _).mono ?_; rintro e w5 ⟨rfl, hb5⟩
      have hh5 : w5.heap[w.heap.size]? = some (.cells #[.string a1, .string ⟨#[]⟩, .string ⟨#[]⟩, .string ⟨#[]⟩, .string ⟨#[]⟩, .string ⟨#[]⟩, .bool false, .bool false] 23 (0, 0)) := (hb5.block _ (Array.getElem?_eq_some_iff.1 hh4).1).trans hh4
      have hbw5 : Below w.heap.size w w5 := (show Below w.heap.size w _ by first | (go_grown; done) | exact HW4.out.trans ⟨rfl, rfl, rfl, Nat.le_refl _, fun _ _ => rfl⟩).trans (hb5.mono (Nat.le_of_lt (Array.getElem?_eq_some_iff.1 hh4).1))
      clear hb5
      clear c0 c1 c2 c3 c4 c5 c6 c7 g0 g1 g2 g3 g4 g5 g6 g7 hz
      obtain ⟨⟨c0, c1, c2, c3, c4, c5, c6, c7⟩, ⟨g0, g1, g2, g3, g4, g5, g6, g7⟩, hz⟩ := pcells hh5
      have HH5 := Lib.hid hh5
      have HW5 := Lib.hid hbw5
      clear hh4 hbw4
      go_wp2_with fail
      have hh5x := pset (i := 2) hh5 (.string ho) rfl
      have hh5xx := pset (i := 3) hh5x (.string po) rfl
      refine (H6.out _).mono ?_; rintro e w6 ⟨rfl, hb6⟩
      have hh6 : w6.heap[w.heap.size]? = some (.cells #[.string a1, .string ⟨#[]⟩, .string ho, .string po, .string ⟨#[]⟩, .string ⟨#[]⟩, .bool false, .bool false] 23 (0, 0)) := (hb6.block _ (Array.getElem?_eq_some_iff.1 hh5xx).1).trans hh5xx
      have hbw6 : Below w.heap.size w w6 := (show Below w.heap.size w _ by first | (go_grown; done) | exact HW5.out.trans ⟨rfl, rfl, rfl, Nat.le_refl _, fun _ _ => rfl⟩).trans (hb6.mono (Nat.le_of_lt (Array.getElem?_eq_some_iff.1 hh5xx).1))
      clear hb6
      clear c0 c1 c2 c3 c4 c5 c6 c7 g0 g1 g2 g3 g4 g5 g6 g7 hz
      obtain ⟨⟨c0, c1, c2, c3, c4, c5, c6, c7⟩, ⟨g0, g1, g2, g3, g4, g5, g6, g7⟩, hz⟩ := pcells hh6
      have HH6 := Lib.hid hh6
      have HW6 := Lib.hid hbw6
      clear hh5 hbw5
      go_wp2_with fail
      have hh6x := pset (i := 4) hh6 (.string pa) rfl
      have hh6xx := pset (i := 5) hh6x (.string qu) rfl
      have hh6xxx := pset (i := 7) hh6xx (.bool hq) rfl
      refine (H7.out _).mono ?_; rintro e w7 ⟨rfl, hb7⟩
      have hh7 : w7.heap[w.heap.size]? = some (.cells #[.string a1, .string ⟨#[]⟩, .string ho, .string po, .string pa, .string qu, .bool false, .bool hq] 23 (0, 0)) := (hb7.block _ (Array.getElem?_eq_some_iff.1 hh6xxx).1).trans hh6xxx
      have hbw7 : Below w.heap.size w w7 := (show Below w.heap.size w _ by first | (go_grown; done) | exact HW6.out.trans ⟨rfl, rfl, rfl, Nat.le_refl _, fun _ _ => rfl⟩).trans (hb7.mono (Nat.le_of_lt (Array.getElem?_eq_some_iff.1 hh6xxx).1))
      clear hb7
      clear c0 c1 c2 c3 c4 c5 c6 c7 g0 g1 g2 g3 g4 g5 g6 g7 hz
      obtain ⟨⟨c0, c1, c2, c3, c4, c5, c6, c7⟩, ⟨g0, g1, g2, g3, g4, g5, g6, g7⟩, hz⟩ := pcells hh7
      have HH7 := Lib.hid hh7
      have HW7 := Lib.hid hbw7
      clear hh6 hbw6
      rcases hk with rfl | rfl
      · go_wp2_with fail
        refine bodyPost_ret (v := .tuple #[.agg #[.string a1, .string ⟨#[]⟩, .string ho, .string po, .string pa, .string qu, .bool false, .bool hq], .int .i64 0]) (by simp [results, Tryz.results5, go_sem, *]) rfl ⟨by simp, ?_⟩
        go_grown
      · go_wp2_with fail
        refine bodyPost_ret (v := .tuple #[.agg #[.string ⟨#[]⟩, .string ⟨#[]⟩, .string ⟨#[]⟩, .string ⟨#[]⟩, .string ⟨#[]⟩, .string ⟨#[]⟩, .bool false, .bool false], .int .i64 150]) (by simp [results, Tryz.results5, go_sem, *]) rfl ⟨by simp, ?_⟩
        go_grown
end Go.Proofs.YtcocjmbhbddgiaaGreatDoor
