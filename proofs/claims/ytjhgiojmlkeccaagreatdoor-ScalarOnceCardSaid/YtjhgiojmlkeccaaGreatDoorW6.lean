/- Walks and plain laws of this proof, joined from smaller texts (6). -/
import Derived.Test.YtjhgiojmlkeccaaGreatDoorShelg
import Derived.Maps.RangeWalk
import Derived.Test.YtjhgiojmlkeccaaGreatDoorRows
import Derived.ProofKit
import Derived.OpenShut
import Derived.Lib.SmallJoins
import Derived.Below
import Derived.ChangeSame
import Derived.Test.YtjhgiojmlkeccaaGreatDoorW5
set_option linter.unusedSimpArgs false
set_option linter.unusedVariables false
namespace Go.Proofs.YtjhgiojmlkeccaaGreatDoor
open Go.RowKit
/-- A call that computes, and turns nothing older. -/
def Does (f : Nat) (args : Array Value) (v : Value) : Prop := ∀ w : World, Calls Tryz.prog f args w fun e w' => e = .returned v ∧ Below w.heap.size w w'
theorem pcells {b : Nat} {W : World} {v0 v1 v2 v3 v4 v5 v6 v7 : Value} (h : W.heap[b]? = some (.cells #[v0, v1, v2, v3, v4, v5, v6, v7] 101 (0, 0))) :
    (W.cell? ⟨b, 0, none⟩ = some v0 ∧ W.cell? ⟨b, 1, none⟩ = some v1 ∧ W.cell? ⟨b, 2, none⟩ = some v2 ∧ W.cell? ⟨b, 3, none⟩ = some v3 ∧ W.cell? ⟨b, 4, none⟩ = some v4 ∧ W.cell? ⟨b, 5, none⟩ = some v5 ∧ W.cell? ⟨b, 6, none⟩ = some v6 ∧ W.cell? ⟨b, 7, none⟩ = some v7) ∧
    (W.frozen? ⟨b, 0, none⟩ = false ∧ W.frozen? ⟨b, 1, none⟩ = false ∧ W.frozen? ⟨b, 2, none⟩ = false ∧ W.frozen? ⟨b, 3, none⟩ = false ∧ W.frozen? ⟨b, 4, none⟩ = false ∧ W.frozen? ⟨b, 5, none⟩ = false ∧ W.frozen? ⟨b, 6, none⟩ = false ∧ W.frozen? ⟨b, 7, none⟩ = false) ∧ b < W.heap.size := by
  refine ⟨⟨?_, ?_, ?_, ?_, ?_, ?_, ?_, ?_⟩, ⟨Lib.frozen_of_heap h 0, Lib.frozen_of_heap h 1, Lib.frozen_of_heap h 2, Lib.frozen_of_heap h 3, Lib.frozen_of_heap h 4, Lib.frozen_of_heap h 5, Lib.frozen_of_heap h 6, Lib.frozen_of_heap h 7⟩, (Array.getElem?_eq_some_iff.1 h).1⟩
  all_goals (rw [Lib.cell_of_heap h]; rfl)
theorem psetQ {b i : Nat} {W : World} {A A' : Array Value} {T : TypeId} (h : W.heap[b]? = some (.cells A T (0, 0))) (v : Value) (hA : A.setIfInBounds i v = A') : (W.setCell ⟨b, i, none⟩ v).heap[b]? = some (.cells A' T (0, 0)) := by
  subst hA
  have hlt : b < W.heap.size := (Array.getElem?_eq_some_iff.1 h).1
  simp only [World.setCell, Array.getElem?_modify]
  simp [h]
set_option maxRecDepth 100000 in
theorem parse_no (s a1 b1 r2 : ByteArray) (f1 f2 : Bool) (H1 : Hid (Does 85 #[.string s, .string ⟨#[58]⟩] (.tuple #[.string a1, .string b1, .bool f1]))) (H2 : Hid (Does 84 #[.string b1, .string ⟨#[47, 47]⟩] (.tuple #[.string r2, .bool f2]))) (hno : f1 = false ∨ (f1 = true ∧ f2 = false) ∨ (f1 = true ∧ f2 = true ∧ 2048 < s.size)) (hs : s.size ≤ 1000000) (w : World) :
    Calls Tryz.prog 59 #[.string s] w fun e w' => e = .returned (.tuple #[.agg #[.string ⟨#[]⟩, .string ⟨#[]⟩, .string ⟨#[]⟩, .string ⟨#[]⟩, .string ⟨#[]⟩, .string ⟨#[]⟩, .bool false, .bool false], .int .i64 150]) ∧ Below w.heap.size w w' := by
  rcases hno with rfl | ⟨rfl, rfl⟩ | ⟨rfl, rfl, hlen⟩
  all_goals
    go_enter Tryz.func59, Tryz.ntmps59
    go_wp2_with fail
    refine (H1.out _).mono ?_; rintro e w1 ⟨rfl, hb1⟩
    have hh : w1.heap[w.heap.size]? = some (.cells #[.string ⟨#[]⟩, .string ⟨#[]⟩, .string ⟨#[]⟩, .string ⟨#[]⟩, .string ⟨#[]⟩, .string ⟨#[]⟩, .bool false, .bool false] 101 (0, 0)) := (hb1.block _ (by simp)).trans (heap_alloc_new w _)
    have hbw : Below w.heap.size w w1 := ((Below.refl _ _).alloc (Nat.le_refl _) _).trans (hb1.mono (by simp))
    clear hb1
    go_wp2_with fail
    refine (H2.out _).mono ?_; rintro e w2 ⟨rfl, hb2⟩
    have hh2 := (hb2.block _ (Array.getElem?_eq_some_iff.1 hh).1).trans hh
    have hbw2 : Below w.heap.size w w2 := hbw.trans (hb2.mono hbw.size)
    clear hb2 hh hbw
    obtain ⟨⟨c0, c1, c2, c3, c4, c5, c6, c7⟩, ⟨g0, g1, g2, g3, g4, g5, g6, g7⟩, hz⟩ := pcells hh2
    clear hh2
    go_wp2_with fail
    refine bodyPost_ret (v := .tuple #[.agg #[.string ⟨#[]⟩, .string ⟨#[]⟩, .string ⟨#[]⟩, .string ⟨#[]⟩, .string ⟨#[]⟩, .string ⟨#[]⟩, .bool false, .bool false], .int .i64 150]) (by simp [results, Tryz.results59, go_sem, *]) rfl ⟨rfl, ?_⟩
    go_grown
set_option maxRecDepth 100000 in
set_option maxHeartbeats 4000000 in
theorem parse_go (s a1 b1 r2 hd rt a3 b3 hd2 us ho po pa qu : ByteArray) (f3 f4 hq : Bool) (ix ck : Int) (H1 : Hid (Does 85 #[.string s, .string ⟨#[58]⟩] (.tuple #[.string a1, .string b1, .bool true]))) (H2 : Hid (Does 84 #[.string b1, .string ⟨#[47, 47]⟩] (.tuple #[.string r2, .bool true]))) (H3 : Hid (Does 97 #[.string r2, .string ⟨#[47, 63]⟩] (.int .i64 ix))) (H4 : Hid (Does 85 #[.string hd, .string ⟨#[64]⟩] (.tuple #[.string a3, .string b3, .bool f3]))) (H5 : Hid (Does 85 #[.string hd2, .string ⟨#[58]⟩] (.tuple #[.string ho, .string po, .bool f4]))) (H6 : Hid (Does 85 #[.string rt, .string ⟨#[63]⟩] (.tuple #[.string pa, .string qu, .bool hq]))) (H7 : Hid (Does 98 #[.agg #[.string a1, .string us, .string ho, .string po, .string pa, .string qu, .bool f3, .bool hq]] (.int .i64 ck)))
    (hlen : s.size ≤ 2048) (hr : r2.size ≤ 4000) (hix : (ix < 0 ∧ hd = r2 ∧ rt = ⟨#[]⟩) ∨ (∃ n : Nat, ix = n ∧ n ≤ r2.size ∧ hd = r2.extract 0 n ∧ rt = r2.extract n r2.size)) (hf : (f3 = true ∧ us = a3 ∧ hd2 = b3) ∨ (f3 = false ∧ us = ⟨#[]⟩ ∧ hd2 = hd)) (hk : ck = 0 ∨ ck = 150) (w : World) :
    Calls Tryz.prog 59 #[.string s] w fun e w' => e = .returned (if ck = 0 then .tuple #[.agg #[.string a1, .string us, .string ho, .string po, .string pa, .string qu, .bool f3, .bool hq], .int .i64 0] else .tuple #[.agg #[.string ⟨#[]⟩, .string ⟨#[]⟩, .string ⟨#[]⟩, .string ⟨#[]⟩, .string ⟨#[]⟩, .string ⟨#[]⟩, .bool false, .bool false], .int .i64 150]) ∧ Below w.heap.size w w' := by
  go_enter Tryz.func59, Tryz.ntmps59
  go_wp2_with fail
  have hh0 : (w.alloc (.cells #[.string ⟨#[]⟩, .string ⟨#[]⟩, .string ⟨#[]⟩, .string ⟨#[]⟩, .string ⟨#[]⟩, .string ⟨#[]⟩, .bool false, .bool false] 101)).heap[w.heap.size]? = some (.cells #[.string ⟨#[]⟩, .string ⟨#[]⟩, .string ⟨#[]⟩, .string ⟨#[]⟩, .string ⟨#[]⟩, .string ⟨#[]⟩, .bool false, .bool false] 101 (0, 0)) := heap_alloc_new w _
  refine (H1.out _).mono ?_; rintro e w1 ⟨rfl, hb1⟩
  have hh1 : w1.heap[w.heap.size]? = some (.cells #[.string ⟨#[]⟩, .string ⟨#[]⟩, .string ⟨#[]⟩, .string ⟨#[]⟩, .string ⟨#[]⟩, .string ⟨#[]⟩, .bool false, .bool false] 101 (0, 0)) := (hb1.block _ (Array.getElem?_eq_some_iff.1 hh0).1).trans hh0
  have hbw1 : Below w.heap.size w w1 := (show Below w.heap.size w _ by first | (go_grown; done)).trans (hb1.mono (Nat.le_of_lt (Array.getElem?_eq_some_iff.1 hh0).1))
  clear hb1
  obtain ⟨⟨c0, c1, c2, c3, c4, c5, c6, c7⟩, ⟨g0, g1, g2, g3, g4, g5, g6, g7⟩, hz⟩ := pcells hh1
  have HH1 := Lib.hid hh1
  have HW1 := Lib.hid hbw1
  clear hh0
  go_wp2_with fail
  refine (H2.out _).mono ?_; rintro e w2 ⟨rfl, hb2⟩
  have hh2 : w2.heap[w.heap.size]? = some (.cells #[.string ⟨#[]⟩, .string ⟨#[]⟩, .string ⟨#[]⟩, .string ⟨#[]⟩, .string ⟨#[]⟩, .string ⟨#[]⟩, .bool false, .bool false] 101 (0, 0)) := (hb2.block _ (Array.getElem?_eq_some_iff.1 hh1).1).trans hh1
  have hbw2 : Below w.heap.size w w2 := (show Below w.heap.size w _ by first | (go_grown; done) | exact HW1.out.trans ⟨rfl, rfl, rfl, Nat.le_refl _, fun _ _ => rfl⟩).trans (hb2.mono (Nat.le_of_lt (Array.getElem?_eq_some_iff.1 hh1).1))
  clear hb2
  clear c0 c1 c2 c3 c4 c5 c6 c7 g0 g1 g2 g3 g4 g5 g6 g7 hz
  obtain ⟨⟨c0, c1, c2, c3, c4, c5, c6, c7⟩, ⟨g0, g1, g2, g3, g4, g5, g6, g7⟩, hz⟩ := pcells hh2
  have HH2 := Lib.hid hh2
  have HW2 := Lib.hid hbw2
  go_wp2_with fail
  have hh2x := psetQ (i := 0) hh2 (.string a1) rfl
  refine (H3.out _).mono ?_; rintro e w3 ⟨rfl, hb3⟩
  have hh3 : w3.heap[w.heap.size]? = some (.cells #[.string a1, .string ⟨#[]⟩, .string ⟨#[]⟩, .string ⟨#[]⟩, .string ⟨#[]⟩, .string ⟨#[]⟩, .bool false, .bool false] 101 (0, 0)) := (hb3.block _ (Array.getElem?_eq_some_iff.1 hh2x).1).trans hh2x
  have hbw3 : Below w.heap.size w w3 := (show Below w.heap.size w _ by first | (go_grown; done) | exact HW2.out.trans ⟨rfl, rfl, rfl, Nat.le_refl _, fun _ _ => rfl⟩).trans (hb3.mono (Nat.le_of_lt (Array.getElem?_eq_some_iff.1 hh2x).1))
  clear hb3
  clear c0 c1 c2 c3 c4 c5 c6 c7 g0 g1 g2 g3 g4 g5 g6 g7 hz
  obtain ⟨⟨c0, c1, c2, c3, c4, c5, c6, c7⟩, ⟨g0, g1, g2, g3, g4, g5, g6, g7⟩, hz⟩ := pcells hh3
  have HH3 := Lib.hid hh3
  have HW3 := Lib.hid hbw3
  clear hh1 hbw1 hh2 hbw2 hh2x
  rcases hix with ⟨hneg, rfl, rfl⟩ | ⟨n, rfl, hn, rfl, rfl⟩
  · have hneg2 : ¬ 0 ≤ ix := by omega
    go_wp2_with fail
    refine (H4.out _).mono ?_; rintro e w4 ⟨rfl, hb4⟩
    have hh4 : w4.heap[w.heap.size]? = some (.cells #[.string a1, .string ⟨#[]⟩, .string ⟨#[]⟩, .string ⟨#[]⟩, .string ⟨#[]⟩, .string ⟨#[]⟩, .bool false, .bool false] 101 (0, 0)) := (hb4.block _ (Array.getElem?_eq_some_iff.1 hh3).1).trans hh3
    have hbw4 : Below w.heap.size w w4 := (show Below w.heap.size w _ by first | (go_grown; done) | exact HW3.out.trans ⟨rfl, rfl, rfl, Nat.le_refl _, fun _ _ => rfl⟩).trans (hb4.mono (Nat.le_of_lt (Array.getElem?_eq_some_iff.1 hh3).1))
    clear hb4
    clear c0 c1 c2 c3 c4 c5 c6 c7 g0 g1 g2 g3 g4 g5 g6 g7 hz
    obtain ⟨⟨c0, c1, c2, c3, c4, c5, c6, c7⟩, ⟨g0, g1, g2, g3, g4, g5, g6, g7⟩, hz⟩ := pcells hh4
    have HH4 := Lib.hid hh4
    have HW4 := Lib.hid hbw4
    clear hh3 hbw3
    rcases hf with ⟨rfl, rfl, rfl⟩ | ⟨rfl, rfl, rfl⟩
    · go_wp2_with fail
      have hh4x := psetQ (i := 1) hh4 (.string us) rfl
      have hh4xx := psetQ (i := 6) hh4x (.bool true) rfl
      refine (H5.out _).mono ?_; rintro e w5 ⟨rfl, hb5⟩
      have hh5 : w5.heap[w.heap.size]? = some (.cells #[.string a1, .string us, .string ⟨#[]⟩, .string ⟨#[]⟩, .string ⟨#[]⟩, .string ⟨#[]⟩, .bool true, .bool false] 101 (0, 0)) := (hb5.block _ (Array.getElem?_eq_some_iff.1 hh4xx).1).trans hh4xx
      have hbw5 : Below w.heap.size w w5 := (show Below w.heap.size w _ by first | (go_grown; done) | exact HW4.out.trans ⟨rfl, rfl, rfl, Nat.le_refl _, fun _ _ => rfl⟩).trans (hb5.mono (Nat.le_of_lt (Array.getElem?_eq_some_iff.1 hh4xx).1))
      clear hb5
      clear c0 c1 c2 c3 c4 c5 c6 c7 g0 g1 g2 g3 g4 g5 g6 g7 hz
      obtain ⟨⟨c0, c1, c2, c3, c4, c5, c6, c7⟩, ⟨g0, g1, g2, g3, g4, g5, g6, g7⟩, hz⟩ := pcells hh5
      have HH5 := Lib.hid hh5
      have HW5 := Lib.hid hbw5
      clear hh4 hbw4
      go_wp2_with fail
      have hh5x := psetQ (i := 2) hh5 (.string ho) rfl
      have hh5xx := psetQ (i := 3) hh5x (.string po) rfl
      refine (H6.out _).mono ?_; rintro e w6 ⟨rfl, hb6⟩
      have hh6 : w6.heap[w.heap.size]? = some (.cells #[.string a1, .string us, .string ho, .string po, .string ⟨#[]⟩, .string ⟨#[]⟩, .bool true, .bool false] 101 (0, 0)) := (hb6.block _ (Array.getElem?_eq_some_iff.1 hh5xx).1).trans hh5xx
      have hbw6 : Below w.heap.size w w6 := (show Below w.heap.size w _ by first | (go_grown; done) | exact HW5.out.trans ⟨rfl, rfl, rfl, Nat.le_refl _, fun _ _ => rfl⟩).trans (hb6.mono (Nat.le_of_lt (Array.getElem?_eq_some_iff.1 hh5xx).1))
      clear hb6
      clear c0 c1 c2 c3 c4 c5 c6 c7 g0 g1 g2 g3 g4 g5 g6 g7 hz
      obtain ⟨⟨c0, c1, c2, c3, c4, c5, c6, c7⟩, ⟨g0, g1, g2, g3, g4, g5, g6, g7⟩, hz⟩ := pcells hh6
      have HH6 := Lib.hid hh6
      have HW6 := Lib.hid hbw6
      clear hh5 hbw5
      go_wp2_with fail
      have hh6x := psetQ (i := 4) hh6 (.string pa) rfl
      have hh6xx := psetQ (i := 5) hh6x (.string qu) rfl
      have hh6xxx := psetQ (i := 7) hh6xx (.bool hq) rfl
      refine (H7.out _).mono ?_; rintro e w7 ⟨rfl, hb7⟩
      have hh7 : w7.heap[w.heap.size]? = some (.cells #[.string a1, .string us, .string ho, .string po, .string pa, .string qu, .bool true, .bool hq] 101 (0, 0)) := (hb7.block _ (Array.getElem?_eq_some_iff.1 hh6xxx).1).trans hh6xxx
      have hbw7 : Below w.heap.size w w7 := (show Below w.heap.size w _ by first | (go_grown; done) | exact HW6.out.trans ⟨rfl, rfl, rfl, Nat.le_refl _, fun _ _ => rfl⟩).trans (hb7.mono (Nat.le_of_lt (Array.getElem?_eq_some_iff.1 hh6xxx).1))
      clear hb7
      clear c0 c1 c2 c3 c4 c5 c6 c7 g0 g1 g2 g3 g4 g5 g6 g7 hz
      obtain ⟨⟨c0, c1, c2, c3, c4, c5, c6, c7⟩, ⟨g0, g1, g2, g3, g4, g5, g6, g7⟩, hz⟩ := pcells hh7
      have HH7 := Lib.hid hh7
      have HW7 := Lib.hid hbw7
      clear hh6 hbw6
      rcases hk with rfl | rfl
      · go_wp2_with fail
        refine bodyPost_ret (v := .tuple #[.agg #[.string a1, .string us, .string ho, .string po, .string pa, .string qu, .bool true, .bool hq], .int .i64 0]) (by simp [results, Tryz.results59, go_sem, *]) rfl ⟨by simp, ?_⟩
        go_grown
      · go_wp2_with fail
        refine bodyPost_ret (v := .tuple #[.agg #[.string ⟨#[]⟩, .string ⟨#[]⟩, .string ⟨#[]⟩, .string ⟨#[]⟩, .string ⟨#[]⟩, .string ⟨#[]⟩, .bool false, .bool false], .int .i64 150]) (by simp [results, Tryz.results59, go_sem, *]) rfl ⟨by simp, ?_⟩
        go_grown
    · go_wp2_with fail
      refine (H5.out _).mono ?_; rintro e w5 ⟨rfl, hb5⟩
      have hh5 : w5.heap[w.heap.size]? = some (.cells #[.string a1, .string ⟨#[]⟩, .string ⟨#[]⟩, .string ⟨#[]⟩, .string ⟨#[]⟩, .string ⟨#[]⟩, .bool false, .bool false] 101 (0, 0)) := (hb5.block _ (Array.getElem?_eq_some_iff.1 hh4).1).trans hh4
      have hbw5 : Below w.heap.size w w5 := (show Below w.heap.size w _ by first | (go_grown; done) | exact HW4.out.trans ⟨rfl, rfl, rfl, Nat.le_refl _, fun _ _ => rfl⟩).trans (hb5.mono (Nat.le_of_lt (Array.getElem?_eq_some_iff.1 hh4).1))
      clear hb5
      clear c0 c1 c2 c3 c4 c5 c6 c7 g0 g1 g2 g3 g4 g5 g6 g7 hz
      obtain ⟨⟨c0, c1, c2, c3, c4, c5, c6, c7⟩, ⟨g0, g1, g2, g3, g4, g5, g6, g7⟩, hz⟩ := pcells hh5
      have HH5 := Lib.hid hh5
      have HW5 := Lib.hid hbw5
      clear hh4 hbw4
      go_wp2_with fail
      have hh5x := psetQ (i := 2) hh5 (.string ho) rfl
      have hh5xx := psetQ (i := 3) hh5x (.string po) rfl
      refine (H6.out _).mono ?_; rintro e w6 ⟨rfl, hb6⟩
      have hh6 : w6.heap[w.heap.size]? = some (.cells #[.string a1, .string ⟨#[]⟩, .string ho, .string po, .string ⟨#[]⟩, .string ⟨#[]⟩, .bool false, .bool false] 101 (0, 0)) := (hb6.block _ (Array.getElem?_eq_some_iff.1 hh5xx).1).trans hh5xx
      have hbw6 : Below w.heap.size w w6 := (show Below w.heap.size w _ by first | (go_grown; done) | exact HW5.out.trans ⟨rfl, rfl, rfl, Nat.le_refl _, fun _ _ => rfl⟩).trans (hb6.mono (Nat.le_of_lt (Array.getElem?_eq_some_iff.1 hh5xx).1))
      clear hb6
      clear c0 c1 c2 c3 c4 c5 c6 c7 g0 g1 g2 g3 g4 g5 g6 g7 hz
      obtain ⟨⟨c0, c1, c2, c3, c4, c5, c6, c7⟩, ⟨g0, g1, g2, g3, g4, g5, g6, g7⟩, hz⟩ := pcells hh6
      have HH6 := Lib.hid hh6
      have HW6 := Lib.hid hbw6
      clear hh5 hbw5
      go_wp2_with fail
      have hh6x := psetQ (i := 4) hh6 (.string pa) rfl
      have hh6xx := psetQ (i := 5) hh6x (.string qu) rfl
      have hh6xxx := psetQ (i := 7) hh6xx (.bool hq) rfl
      refine (H7.out _).mono ?_; rintro e w7 ⟨rfl, hb7⟩
      have hh7 : w7.heap[w.heap.size]? = some (.cells #[.string a1, .string ⟨#[]⟩, .string ho, .string po, .string pa, .string qu, .bool false, .bool hq] 101 (0, 0)) := (hb7.block _ (Array.getElem?_eq_some_iff.1 hh6xxx).1).trans hh6xxx
      have hbw7 : Below w.heap.size w w7 := (show Below w.heap.size w _ by first | (go_grown; done) | exact HW6.out.trans ⟨rfl, rfl, rfl, Nat.le_refl _, fun _ _ => rfl⟩).trans (hb7.mono (Nat.le_of_lt (Array.getElem?_eq_some_iff.1 hh6xxx).1))
      clear hb7
      clear c0 c1 c2 c3 c4 c5 c6 c7 g0 g1 g2 g3 g4 g5 g6 g7 hz
      obtain ⟨⟨c0, c1, c2, c3, c4, c5, c6, c7⟩, ⟨g0, g1, g2, g3, g4, g5, g6, g7⟩, hz⟩ := pcells hh7
      have HH7 := Lib.hid hh7
      have HW7 := Lib.hid hbw7
      clear hh6 hbw6
      rcases hk with rfl | rfl
      · go_wp2_with fail
        refine bodyPost_ret (v := .tuple #[.agg #[.string a1, .string ⟨#[]⟩, .string ho, .string po, .string pa, .string qu, .bool false, .bool hq], .int .i64 0]) (by simp [results, Tryz.results59, go_sem, *]) rfl ⟨by simp, ?_⟩
        go_grown
      · go_wp2_with fail
        refine bodyPost_ret (v := .tuple #[.agg #[.string ⟨#[]⟩, .string ⟨#[]⟩, .string ⟨#[]⟩, .string ⟨#[]⟩, .string ⟨#[]⟩, .string ⟨#[]⟩, .bool false, .bool false], .int .i64 150]) (by simp [results, Tryz.results59, go_sem, *]) rfl ⟨by simp, ?_⟩
        go_grown
  · have hn0 : (0 : Int) ≤ n := by omega
    have hn1 : (n : Int) ≤ r2.size := by omega
    go_wp2_with fail
    go_quiet (fail)
    go_wp2_with fail
    refine (H4.out _).mono ?_; rintro e w4 ⟨rfl, hb4⟩
    have hh4 : w4.heap[w.heap.size]? = some (.cells #[.string a1, .string ⟨#[]⟩, .string ⟨#[]⟩, .string ⟨#[]⟩, .string ⟨#[]⟩, .string ⟨#[]⟩, .bool false, .bool false] 101 (0, 0)) := (hb4.block _ (Array.getElem?_eq_some_iff.1 hh3).1).trans hh3
    have hbw4 : Below w.heap.size w w4 := (show Below w.heap.size w _ by first | (go_grown; done) | exact HW3.out.trans ⟨rfl, rfl, rfl, Nat.le_refl _, fun _ _ => rfl⟩).trans (hb4.mono (Nat.le_of_lt (Array.getElem?_eq_some_iff.1 hh3).1))
    clear hb4
    clear c0 c1 c2 c3 c4 c5 c6 c7 g0 g1 g2 g3 g4 g5 g6 g7 hz
    obtain ⟨⟨c0, c1, c2, c3, c4, c5, c6, c7⟩, ⟨g0, g1, g2, g3, g4, g5, g6, g7⟩, hz⟩ := pcells hh4
    have HH4 := Lib.hid hh4
    have HW4 := Lib.hid hbw4
    clear hh3 hbw3
    rcases hf with ⟨rfl, rfl, rfl⟩ | ⟨rfl, rfl, rfl⟩
    · go_wp2_with fail
      have hh4x := psetQ (i := 1) hh4 (.string us) rfl
      have hh4xx := psetQ (i := 6) hh4x (.bool true) rfl
      refine (H5.out _).mono ?_; rintro e w5 ⟨rfl, hb5⟩
      have hh5 : w5.heap[w.heap.size]? = some (.cells #[.string a1, .string us, .string ⟨#[]⟩, .string ⟨#[]⟩, .string ⟨#[]⟩, .string ⟨#[]⟩, .bool true, .bool false] 101 (0, 0)) := (hb5.block _ (Array.getElem?_eq_some_iff.1 hh4xx).1).trans hh4xx
      have hbw5 : Below w.heap.size w w5 := (show Below w.heap.size w _ by first | (go_grown; done) | exact HW4.out.trans ⟨rfl, rfl, rfl, Nat.le_refl _, fun _ _ => rfl⟩).trans (hb5.mono (Nat.le_of_lt (Array.getElem?_eq_some_iff.1 hh4xx).1))
      clear hb5
      clear c0 c1 c2 c3 c4 c5 c6 c7 g0 g1 g2 g3 g4 g5 g6 g7 hz
      obtain ⟨⟨c0, c1, c2, c3, c4, c5, c6, c7⟩, ⟨g0, g1, g2, g3, g4, g5, g6, g7⟩, hz⟩ := pcells hh5
      have HH5 := Lib.hid hh5
      have HW5 := Lib.hid hbw5
      clear hh4 hbw4
      go_wp2_with fail
      have hh5x := psetQ (i := 2) hh5 (.string ho) rfl
      have hh5xx := psetQ (i := 3) hh5x (.string po) rfl
      refine (H6.out _).mono ?_; rintro e w6 ⟨rfl, hb6⟩
      have hh6 : w6.heap[w.heap.size]? = some (.cells #[.string a1, .string us, .string ho, .string po, .string ⟨#[]⟩, .string ⟨#[]⟩, .bool true, .bool false] 101 (0, 0)) := (hb6.block _ (Array.getElem?_eq_some_iff.1 hh5xx).1).trans hh5xx
      have hbw6 : Below w.heap.size w w6 := (show Below w.heap.size w _ by first | (go_grown; done) | exact HW5.out.trans ⟨rfl, rfl, rfl, Nat.le_refl _, fun _ _ => rfl⟩).trans (hb6.mono (Nat.le_of_lt (Array.getElem?_eq_some_iff.1 hh5xx).1))
      clear hb6
      clear c0 c1 c2 c3 c4 c5 c6 c7 g0 g1 g2 g3 g4 g5 g6 g7 hz
      obtain ⟨⟨c0, c1, c2, c3, c4, c5, c6, c7⟩, ⟨g0, g1, g2, g3, g4, g5, g6, g7⟩, hz⟩ := pcells hh6
      have HH6 := Lib.hid hh6
      have HW6 := Lib.hid hbw6
      clear hh5 hbw5
      go_wp2_with fail
      have hh6x := psetQ (i := 4) hh6 (.string pa) rfl
      have hh6xx := psetQ (i := 5) hh6x (.string qu) rfl
      have hh6xxx := psetQ (i := 7) hh6xx (.bool hq) rfl
      refine (H7.out _).mono ?_; rintro e w7 ⟨rfl, hb7⟩
      have hh7 : w7.heap[w.heap.size]? = some (.cells #[.string a1, .string us, .string ho, .string po, .string pa, .string qu, .bool true, .bool hq] 101 (0, 0)) := (hb7.block _ (Array.getElem?_eq_some_iff.1 hh6xxx).1).trans hh6xxx
      have hbw7 : Below w.heap.size w w7 := (show Below w.heap.size w _ by first | (go_grown; done) | exact HW6.out.trans ⟨rfl, rfl, rfl, Nat.le_refl _, fun _ _ => rfl⟩).trans (hb7.mono (Nat.le_of_lt (Array.getElem?_eq_some_iff.1 hh6xxx).1))
      clear hb7
      clear c0 c1 c2 c3 c4 c5 c6 c7 g0 g1 g2 g3 g4 g5 g6 g7 hz
      obtain ⟨⟨c0, c1, c2, c3, c4, c5, c6, c7⟩, ⟨g0, g1, g2, g3, g4, g5, g6, g7⟩, hz⟩ := pcells hh7
      have HH7 := Lib.hid hh7
      have HW7 := Lib.hid hbw7
      clear hh6 hbw6
      rcases hk with rfl | rfl
      · go_wp2_with fail
        refine bodyPost_ret (v := .tuple #[.agg #[.string a1, .string us, .string ho, .string po, .string pa, .string qu, .bool true, .bool hq], .int .i64 0]) (by simp [results, Tryz.results59, go_sem, *]) rfl ⟨by simp, ?_⟩
        go_grown
      · go_wp2_with fail
        refine bodyPost_ret (v := .tuple #[.agg #[.string ⟨#[]⟩, .string ⟨#[]⟩, .string ⟨#[]⟩, .string ⟨#[]⟩, .string ⟨#[]⟩, .string ⟨#[]⟩, .bool false, .bool false], .int .i64 150]) (by simp [results, Tryz.results59, go_sem, *]) rfl ⟨by simp, ?_⟩
        go_grown
    · go_wp2_with fail
      refine (H5.out _).mono ?_; rintro e w5 ⟨rfl, hb5⟩
      have hh5 : w5.heap[w.heap.size]? = some (.cells #[.string a1, .string ⟨#[]⟩, .string ⟨#[]⟩, .string ⟨#[]⟩, .string ⟨#[]⟩, .string ⟨#[]⟩, .bool false, .bool false] 101 (0, 0)) := (hb5.block _ (Array.getElem?_eq_some_iff.1 hh4).1).trans hh4
      have hbw5 : Below w.heap.size w w5 := (show Below w.heap.size w _ by first | (go_grown; done) | exact HW4.out.trans ⟨rfl, rfl, rfl, Nat.le_refl _, fun _ _ => rfl⟩).trans (hb5.mono (Nat.le_of_lt (Array.getElem?_eq_some_iff.1 hh4).1))
      clear hb5
      clear c0 c1 c2 c3 c4 c5 c6 c7 g0 g1 g2 g3 g4 g5 g6 g7 hz
      obtain ⟨⟨c0, c1, c2, c3, c4, c5, c6, c7⟩, ⟨g0, g1, g2, g3, g4, g5, g6, g7⟩, hz⟩ := pcells hh5
      have HH5 := Lib.hid hh5
      have HW5 := Lib.hid hbw5
      clear hh4 hbw4
      go_wp2_with fail
      have hh5x := psetQ (i := 2) hh5 (.string ho) rfl
      have hh5xx := psetQ (i := 3) hh5x (.string po) rfl
      refine (H6.out _).mono ?_; rintro e w6 ⟨rfl, hb6⟩
      have hh6 : w6.heap[w.heap.size]? = some (.cells #[.string a1, .string ⟨#[]⟩, .string ho, .string po, .string ⟨#[]⟩, .string ⟨#[]⟩, .bool false, .bool false] 101 (0, 0)) := (hb6.block _ (Array.getElem?_eq_some_iff.1 hh5xx).1).trans hh5xx
      have hbw6 : Below w.heap.size w w6 := (show Below w.heap.size w _ by first | (go_grown; done) | exact HW5.out.trans ⟨rfl, rfl, rfl, Nat.le_refl _, fun _ _ => rfl⟩).trans (hb6.mono (Nat.le_of_lt (Array.getElem?_eq_some_iff.1 hh5xx).1))
      clear hb6
      clear c0 c1 c2 c3 c4 c5 c6 c7 g0 g1 g2 g3 g4 g5 g6 g7 hz
      obtain ⟨⟨c0, c1, c2, c3, c4, c5, c6, c7⟩, ⟨g0, g1, g2, g3, g4, g5, g6, g7⟩, hz⟩ := pcells hh6
      have HH6 := Lib.hid hh6
      have HW6 := Lib.hid hbw6
      clear hh5 hbw5
      go_wp2_with fail
      have hh6x := psetQ (i := 4) hh6 (.string pa) rfl
      have hh6xx := psetQ (i := 5) hh6x (.string qu) rfl
      have hh6xxx := psetQ (i := 7) hh6xx (.bool hq) rfl
      refine (H7.out _).mono ?_; rintro e w7 ⟨rfl, hb7⟩
      have hh7 : w7.heap[w.heap.size]? = some (.cells #[.string a1, .string ⟨#[]⟩, .string ho, .string po, .string pa, .string qu, .bool false, .bool hq] 101 (0, 0)) := (hb7.block _ (Array.getElem?_eq_some_iff.1 hh6xxx).1).trans hh6xxx
      have hbw7 : Below w.heap.size w w7 := (show Below w.heap.size w _ by first | (go_grown; done) | exact HW6.out.trans ⟨rfl, rfl, rfl, Nat.le_refl _, fun _ _ => rfl⟩).trans (hb7.mono (Nat.le_of_lt (Array.getElem?_eq_some_iff.1 hh6xxx).1))
      clear hb7
      clear c0 c1 c2 c3 c4 c5 c6 c7 g0 g1 g2 g3 g4 g5 g6 g7 hz
      obtain ⟨⟨c0, c1, c2, c3, c4, c5, c6, c7⟩, ⟨g0, g1, g2, g3, g4, g5, g6, g7⟩, hz⟩ := pcells hh7
      have HH7 := Lib.hid hh7
      have HW7 := Lib.hid hbw7
      clear hh6 hbw6
      rcases hk with rfl | rfl
      · go_wp2_with fail
        refine bodyPost_ret (v := .tuple #[.agg #[.string a1, .string ⟨#[]⟩, .string ho, .string po, .string pa, .string qu, .bool false, .bool hq], .int .i64 0]) (by simp [results, Tryz.results59, go_sem, *]) rfl ⟨by simp, ?_⟩
        go_grown
      · go_wp2_with fail
        refine bodyPost_ret (v := .tuple #[.agg #[.string ⟨#[]⟩, .string ⟨#[]⟩, .string ⟨#[]⟩, .string ⟨#[]⟩, .string ⟨#[]⟩, .string ⟨#[]⟩, .bool false, .bool false], .int .i64 150]) (by simp [results, Tryz.results59, go_sem, *]) rfl ⟨by simp, ?_⟩
        go_grown
end Go.Proofs.YtjhgiojmlkeccaaGreatDoor
namespace Go.Proofs.YtjhgiojmlkeccaaGreatDoor
open Go.RowKit
def bs (l : List UInt8) : ByteArray := ⟨l.toArray⟩
theorem bs_list (l : List UInt8) : (bs l).data.toList = l := rfl
theorem bs_of (s : ByteArray) (l : List UInt8) (h : s.data.toList = l) : s = bs l := bytes_ext h
theorem bs_size (l : List UInt8) : (bs l).size = l.length := by rw [← len_size]; rfl
def r2L (l : List UInt8) : List UInt8 := (behind 58 l).drop 2
def okL (l : List UInt8) : Bool := l.contains 58 && Lib.hasPrefix (behind 58 l) [47, 47] && decide (l.length ≤ 2048)
def ixL (l : List UInt8) : Int := Lib.indexAny l [47, 63]
def headL (l : List UInt8) : List UInt8 := if 0 ≤ ixL l then l.take (ixL l).toNat else l
def restL (l : List UInt8) : List UInt8 := if 0 ≤ ixL l then l.drop (ixL l).toNat else []
def usL (h : List UInt8) : List UInt8 := if h.contains 64 then ahead 64 h else []
def hd2L (h : List UInt8) : List UInt8 := if h.contains 64 then behind 64 h else h
def scP (l : List UInt8) : List UInt8 := ahead 58 l
def hP (l : List UInt8) : List UInt8 := headL (r2L l)
def usP (l : List UInt8) : List UInt8 := usL (hP l)
def huP (l : List UInt8) : Bool := (hP l).contains 64
def hoP (l : List UInt8) : List UInt8 := ahead 58 (hd2L (hP l))
def poP (l : List UInt8) : List UInt8 := behind 58 (hd2L (hP l))
def rtP (l : List UInt8) : List UInt8 := restL (r2L l)
def paP (l : List UInt8) : List UInt8 := ahead 63 (rtP l)
def quP (l : List UInt8) : List UInt8 := behind 63 (rtP l)
def hqP (l : List UInt8) : Bool := (rtP l).contains 63
def mayP (l : List UInt8) : Bool := mayL (scP l) (usP l) (hoP l) (poP l) (paP l) (quP l) (huP l) (hqP l)
def parseOkQ (l : List UInt8) : Bool := okL l && mayP l
def zeroA : Value := .agg #[.string ⟨#[]⟩, .string ⟨#[]⟩, .string ⟨#[]⟩, .string ⟨#[]⟩, .string ⟨#[]⟩, .string ⟨#[]⟩, .bool false, .bool false]
def addrV (sc us ho po pa qu : List UInt8) (hu hq : Bool) : Value := .agg #[.string (bs sc), .string (bs us), .string (bs ho), .string (bs po), .string (bs pa), .string (bs qu), .bool hu, .bool hq]
def parseV (l : List UInt8) : Value := if parseOkQ l then .tuple #[addrV (scP l) (usP l) (hoP l) (poP l) (paP l) (quP l) (huP l) (hqP l), .int .i64 0] else .tuple #[zeroA, .int .i64 150]
theorem ahead_le (c : UInt8) (l : List UInt8) : (ahead c l).length ≤ l.length := by
  unfold ahead
  exact (List.takeWhile_sublist _).length_le
theorem behind_le (c : UInt8) (l : List UInt8) : (behind c l).length ≤ l.length := by
  unfold behind
  rw [List.length_tail]
  have := (List.dropWhile_sublist (· != c) (l := l)).length_le
  omega
theorem headL_le (l : List UInt8) : (headL l).length ≤ l.length := by
  unfold headL; split
  · rw [List.length_take]; omega
  · exact Nat.le_refl _
theorem restL_le (l : List UInt8) : (restL l).length ≤ l.length := by
  unfold restL; split
  · rw [List.length_drop]; omega
  · exact Nat.zero_le _
theorem usL_le (l : List UInt8) : (usL l).length ≤ l.length := by
  unfold usL; split
  · exact ahead_le _ _
  · exact Nat.zero_le _
theorem hd2L_le (l : List UInt8) : (hd2L l).length ≤ l.length := by
  unfold hd2L; split
  · exact behind_le _ _
  · exact Nat.le_refl _
theorem r2L_le (l : List UInt8) : (r2L l).length ≤ l.length := by
  unfold r2L
  have := behind_le 58 l
  rw [List.length_drop]; omega
theorem parts_le (l : List UInt8) : (scP l).length ≤ l.length ∧ (usP l).length ≤ l.length ∧ (hoP l).length ≤ l.length ∧ (poP l).length ≤ l.length ∧ (paP l).length ≤ l.length ∧ (quP l).length ≤ l.length ∧ (r2L l).length ≤ l.length ∧ (hP l).length ≤ l.length ∧ (hd2L (hP l)).length ≤ l.length ∧ (rtP l).length ≤ l.length := by
  have a := ahead_le 58 l
  have b := r2L_le l
  have c := headL_le (r2L l)
  have d := restL_le (r2L l)
  have e := usL_le (hP l)
  have f := hd2L_le (hP l)
  have g := ahead_le 58 (hd2L (hP l))
  have h := behind_le 58 (hd2L (hP l))
  have i := ahead_le 63 (rtP l)
  have j := behind_le 63 (rtP l)
  unfold hP rtP at *
  unfold scP usP hoP poP paP quP hP rtP
  refine ⟨a, ?_, ?_, ?_, ?_, ?_, ?_, ?_, ?_, ?_⟩ <;> omega
theorem cut_does (l : List UInt8) (c : UInt8) (hl : l.length ≤ 1000000) : Does 85 #[.string (bs l), .string ⟨#[c]⟩] (.tuple #[.string (bs (ahead c l)), .string (bs (behind c l)), .bool (l.contains c)]) := fun w =>
  (cut_one (bs l) c (by rw [bs_size]; unfold maxLen; omega) w).mono fun e w' ⟨he, n, hw⟩ => ⟨he, by subst hw; exact ⟨rfl, rfl, rfl, Nat.le_refl _, fun _ _ => rfl⟩⟩
theorem prefix_does (l p : List UInt8) : Does 84 #[.string (bs l), .string (bs p)] (.tuple #[.string (bs (Lib.trimPrefix l p)), .bool (Lib.hasPrefix l p)]) := fun w =>
  (Tryz.strings_CutPrefix (bs l) (bs p) w).mono fun e w' ⟨he, hw⟩ => ⟨he, by subst hw; exact Below.refl _ _⟩
theorem any_does (l : List UInt8) (hl : l.length ≤ 1000000) : Does 97 #[.string (bs l), .string ⟨#[47, 63]⟩] (.int .i64 (ixL l)) := fun w =>
  (any_any (bs l) (by rw [bs_size]; exact hl) w).mono fun e w' ⟨he, hw⟩ => ⟨he, hw⟩
theorem check_does (sc us ho po pa qu : List UInt8) (hu hq : Bool) (h1 : sc.length ≤ 100000) (h2 : us.length ≤ 100000) (h3 : ho.length ≤ 100000) (h4 : po.length ≤ 100000) (h5 : pa.length ≤ 100000) (h6 : qu.length ≤ 100000) :
    Does 98 #[addrV sc us ho po pa qu hu hq] (.int .i64 (if mayL sc us ho po pa qu hu hq then 0 else 150)) := fun w =>
  check_any (bs sc) (bs us) (bs ho) (bs po) (bs pa) (bs qu) hu hq (by rw [bs_size]; exact h1) (by rw [bs_size]; exact h2) (by rw [bs_size]; exact h3) (by rw [bs_size]; exact h4) (by rw [bs_size]; exact h5) (by rw [bs_size]; exact h6) w
theorem ix_lt (l : List UInt8) : ixL l < 0 ∨ ∃ n : Nat, ixL l = n ∧ n ≤ l.length := by
  by_cases h : 0 ≤ ixL l
  · right
    refine ⟨(ixL l).toNat, by omega, ?_⟩
    have : ∀ l : List UInt8, Lib.indexAny l [47, 63] ≤ l.length := by
      intro l
      induction l with
      | nil => decide
      | cons c r ih =>
        unfold Lib.indexAny
        split
        · simp only [List.length_cons]; omega
        · split
          · simp; omega
          · simp only [List.length_cons]; omega
    have := this l
    unfold ixL at *
    omega
  · left; omega
theorem extract_bs (l : List UInt8) (n : Nat) (h : n ≤ l.length) : (bs l).extract 0 n = bs (l.take n) ∧ (bs l).extract n (bs l).size = bs (l.drop n) := by
  constructor
  · apply bs_of
    rw [ByteArray.data_extract, Array.toList_extract, List.extract_eq_take_drop, bs_list]
    simp
  · apply bs_of
    rw [ext_drop, bs_list]
theorem parse_any (s : ByteArray) (hs : s.size ≤ 100000) (w : World) :
    Calls Tryz.prog 59 #[.string s] w fun e w' => e = .returned (parseV s.data.toList) ∧ Below w.heap.size w w' := by
  obtain ⟨l, hl⟩ : ∃ l, s.data.toList = l := ⟨_, rfl⟩
  obtain rfl : s = bs l := bs_of s l hl
  rw [bs_list]
  have hll : l.length ≤ 100000 := by rw [← bs_size]; exact hs
  have hp := parts_le l
  have H1 := cut_does l 58 (by omega)
  have H2 := prefix_does (behind 58 l) [47, 47]
  by_cases hok : okL l = true
  · unfold okL at hok
    simp only [Bool.and_eq_true, decide_eq_true_eq] at hok
    obtain ⟨⟨k1, k2⟩, k3⟩ := hok
    have ht : Lib.trimPrefix (behind 58 l) [47, 47] = r2L l := by unfold Lib.trimPrefix; rw [if_pos k2]; rfl
    rw [k1] at H1
    rw [ht, k2] at H2
    have H3 := any_does (r2L l) (by omega)
    have H4 := cut_does (hP l) 64 (by omega)
    have H5 := cut_does (hd2L (hP l)) 58 (by omega)
    have H6 := cut_does (rtP l) 63 (by omega)
    have H7 := check_does (scP l) (usP l) (hoP l) (poP l) (paP l) (quP l) (huP l) (hqP l) (by omega) (by omega) (by omega) (by omega) (by omega) (by omega)
    refine (parse_go (bs l) (bs (scP l)) (bs (behind 58 l)) (bs (r2L l)) (bs (hP l)) (bs (rtP l)) (bs (ahead 64 (hP l))) (bs (behind 64 (hP l))) (bs (hd2L (hP l))) (bs (usP l)) (bs (hoP l)) (bs (poP l)) (bs (paP l)) (bs (quP l)) (huP l) _ (hqP l) (ixL (r2L l)) _
      (Lib.hid H1) (Lib.hid H2) (Lib.hid H3) (Lib.hid H4) (Lib.hid H5) (Lib.hid H6) (Lib.hid H7) (by rw [bs_size]; exact k3) (by rw [bs_size]; omega) ?_ ?_ ?_ w).mono ?_
    · rcases ix_lt (r2L l) with h | ⟨n, h, hn⟩
      · left
        refine ⟨h, ?_, ?_⟩
        · unfold hP headL; rw [if_neg (by omega)]
        · unfold rtP restL; rw [if_neg (by omega)]; rfl
      · right
        refine ⟨n, h, by rw [bs_size]; exact hn, ?_, ?_⟩
        · rw [(extract_bs _ n hn).1]; unfold hP headL; rw [if_pos (by omega), h]; rfl
        · rw [(extract_bs _ n hn).2]; unfold rtP restL; rw [if_pos (by omega), h]; rfl
    · cases h : (hP l).contains 64 with
      | true => left; exact ⟨h, by unfold usP usL; rw [if_pos h], by unfold hd2L; rw [if_pos h]⟩
      | false => right; exact ⟨h, by unfold usP usL; rw [if_neg (by rw [h]; decide)]; rfl, by unfold hd2L; rw [if_neg (by rw [h]; decide)]⟩
    · split <;> simp
    · rintro e w' ⟨rfl, hw⟩
      refine ⟨?_, hw⟩
      unfold parseV parseOkQ okL mayP
      rw [k1, k2, decide_eq_true k3]
      cases mayL (scP l) (usP l) (hoP l) (poP l) (paP l) (quP l) (huP l) (hqP l) <;> rfl
  · have hv : parseV l = .tuple #[zeroA, .int .i64 150] := by
      unfold parseV parseOkQ
      rw [Bool.not_eq_true] at hok
      rw [hok]; rfl
    rw [hv]
    refine parse_no (bs l) _ _ _ _ _ (Lib.hid H1) (Lib.hid H2) ?_ (by rw [bs_size]; omega) w
    unfold okL at hok
    simp only [Bool.and_eq_true, decide_eq_true_eq, not_and, Bool.not_eq_true] at hok
    cases h1 : l.contains 58 with
    | false => left; rfl
    | true =>
      cases h2 : Lib.hasPrefix (behind 58 l) [47, 47] with
      | false => right; left; exact ⟨rfl, rfl⟩
      | true => right; right; exact ⟨rfl, rfl, by rw [bs_size]; have := hok ⟨h1, h2⟩; omega⟩
end Go.Proofs.YtjhgiojmlkeccaaGreatDoor
namespace Go.Proofs.YtjhgiojmlkeccaaGreatDoor
open Go.RowKit
set_option maxRecDepth 100000 in
theorem grow_any (B b n : Nat) (w : World) (hn : 1 ≤ n) (hn2 : n ≤ 1000000) (hB : B ≤ b) (hbk : w.heap[b]? = some (.cells #[.pointer none, .slice none 0 0] 156 (0, 0))) (hBw : B ≤ w.heap.size) :
    Calls Tryz.prog 105 #[.pointer (some ⟨b, 0, none⟩), .int .i64 n] w fun e w' => e = .returned (.tuple #[]) ∧ Lib.BuilderAt 156 5 B b (.pointer (some ⟨b, 0, none⟩)) [] w' ∧ Below B w w' := by
  have hfr : Lib.BuilderAt 156 5 B b (.pointer none) [] w := ⟨hB, .slice none 0 0, hbk, World.ownsRow_nil _ _ _ _, by simp [Value.ownBlock]⟩
  have HC := Lib.hid (fun (w : World) (h : Lib.BuilderAt 156 5 B b (.pointer none) [] w) => copy_fresh b w h.cell0 h.shape h.frozen0)
  have h2 := psetQ (i := 0) hbk (.pointer (some ⟨b, 0, none⟩)) rfl
  have hz : (w.setCell ⟨b, 0, none⟩ (.pointer (some ⟨b, 0, none⟩))).heap.size = w.heap.size := by simp [World.setCell]
  have c1 : (w.setCell ⟨b, 0, none⟩ (.pointer (some ⟨b, 0, none⟩))).cell? ⟨b, 1, none⟩ = some (.slice none 0 0) := by rw [Lib.cell_of_heap h2]; rfl
  have hn3 : ¬ (n : Int) < 0 := by omega
  have hn4 : (0 : Int) < n := by omega
  obtain ⟨W, hW⟩ : ∃ W, w.setCell ⟨b, 0, none⟩ (.pointer (some ⟨b, 0, none⟩)) = W := ⟨_, rfl⟩
  have hbw : Below B w W := by rw [← hW]; exact (Below.refl _ _).setCell (p := ⟨b, 0, none⟩) hB _
  rw [hW] at h2 hz c1
  have HG := Lib.hid (fun (V : World) h h' => Tryz.Builder_grow_fresh B b n V hB h h' (by omega))
  have H2 := Lib.hid h2
  have HW := Lib.hid hW
  have HF := Lib.hid hfr
  clear h2 hW hfr hbk
  go_enter Tryz.func105, Tryz.ntmps105
  go_wp2_with fail
  refine (HC.out _ HF.out).mono ?_; rintro e w1 ⟨rfl, rfl⟩
  rw [HW.out]
  go_wp2_with fail
  go_quiet (fail)
  go_wp2_with fail
  refine (HG.out _ (by exact H2.out) (by show B ≤ W.heap.size; omega)).mono ?_
  rintro e w3 ⟨rfl, hb3, hbw3⟩
  have hfin : Below B w w3 := hbw.trans ⟨hbw3.os, hbw3.tape, hbw3.output, hbw3.size, hbw3.block⟩
  go_wp2_with fail
  go_end0
  exact ⟨rfl, hb3, hfin⟩
set_option maxHeartbeats 1000000 in
set_option maxRecDepth 100000 in
theorem writeByte_any (B b : Nat) (bs : List Value) (c : Int) (w : World) (h : Lib.IsBuilder 156 5 B b bs w) (hlen : bs.length + 1 ≤ 140737488355328) (hBw : B ≤ w.heap.size) :
    Calls Tryz.prog 106 #[.pointer (some ⟨b, 0, none⟩), .int .u8 c] w fun e w' => e = .returned .nilIface ∧ (Lib.BuilderAt 156 5 B b (.pointer (some ⟨b, 0, none⟩)) (bs ++ [.int .u8 c]) w' ∧ Below B w w') := by
  obtain ⟨i0, hi, hz0, hz1, hz2⟩ := info_parts byte_info
  go_enter Tryz.func106, Tryz.ntmps106
  go_wp2_with fail
  refine (copy_any B b bs _ h).mono ?_
  rintro e w1 ⟨rfl, h1, hb1, ho1⟩
  clear ho1
  obtain ⟨hB, v, hbk, hown, hne⟩ := h1
  have c0 : w1.cell? ⟨b, 0, none⟩ = some (.pointer (some ⟨b, 0, none⟩)) := by rw [Lib.cell_of_heap hbk]; rfl
  have c1 : w1.cell? ⟨b, 1, none⟩ = some v := by rw [Lib.cell_of_heap hbk]; rfl
  have hlt : b < w1.heap.size := (Array.getElem?_eq_some_iff.1 hbk).1
  go_wp2_with (at_builtin; refine wpList_append_own _ rfl _ _ 131 rfl B 5 i0 (.int .u8 0) 1 1 Tryz.underlying131 hi hz0 hz1 hz2 rfl (by decide) _ _ _ rfl (hown.alloc _) ⟨w1.heap.size, 0, none⟩ 1 1 [.int .u8 c] rfl rfl ?c1 ?c2 ?c3 ?c4 ?c5 ?_)
  case c1 =>
    intro j u hj
    match j, hj with
    | 0, hj =>
      have e : u = .int .u8 c := (Option.some.inj hj).symm
      rw [e]
      exact new_cell w1 _ _ 0 _ rfl
    | j + 1, hj => cases hj
  case c2 => intro u hu; rw [List.mem_singleton] at hu; rw [hu]; rfl
  case c3 => unfold maxLen; omega
  case c4 => omega
  case c5 => have := hb1.size; simp; omega
  intro v' w2 hown' hgrow _
  have hb2 : w2.heap[b]? = some (.cells #[.pointer (some ⟨b, 0, none⟩), v] 156 (0, 0)) := by
    rw [hgrow.block b (by simp; omega) (fun e => hne e.symm), Below.heap_alloc _ _ _ hlt]
    exact hbk
  have d0 : w2.cell? ⟨b, 0, none⟩ = some (.pointer (some ⟨b, 0, none⟩)) := by rw [Lib.cell_of_heap hb2]; rfl
  have d1 : w2.cell? ⟨b, 1, none⟩ = some v := by rw [Lib.cell_of_heap hb2]; rfl
  have f1 : w2.frozen? ⟨b, 1, none⟩ = false := Lib.frozen_of_heap hb2 1
  obtain ⟨ao, n', cap, rfl⟩ : ∃ ao n' cap, v' = .slice ao n' cap := by
    rcases hown'.2 with ⟨hv, _⟩ | ⟨g, cap, cur, hv, _⟩
    · exact ⟨_, _, _, hv⟩
    · exact ⟨_, _, _, hv⟩
  go_wp2
  go_ret
  refine ⟨rfl, ?_, ?_⟩
  · exact Lib.BuilderAt.put (T := 156) (e := 5) hB hb2 (bs' := bs ++ [.int .u8 c]) (by simpa using hown') (by decide)
  · exact ((hb1.alloc (by have := hb1.size; omega) _).grown hgrow (by have := hb1.size; simp; omega) (fun k hk => (hown.lt k hk).1)).setCell (p := ⟨b, 1, none⟩) hB _
end Go.Proofs.YtjhgiojmlkeccaaGreatDoor
namespace Go.Proofs.YtjhgiojmlkeccaaGreatDoor
open Go.RowKit
theorem byte_if {f : UInt8 → Bool} (h : ∀ i : Fin 256, f (UInt8.ofNat i.val) = true) (c : UInt8) : f c = true := by
  have := h ⟨c.toNat, UInt8.toNat_lt c⟩
  simpa using this
def lowB (c : UInt8) : UInt8 := if 65 ≤ c.toNat ∧ c.toNat ≤ 90 then UInt8.ofNat (c.toNat + 32) else c
def upB (c : UInt8) : UInt8 := if 97 ≤ c.toNat ∧ c.toNat ≤ 122 then UInt8.ofNat (c.toNat - 32) else c
/-- The byte that an escape tells. -/
def escByte (b c : UInt8) : UInt8 := UInt8.ofNat (16 * hexI b.toNat + hexI c.toNat).toNat
def outE (tf : UInt8 → UInt8) (b c : UInt8) : List UInt8 := if isFree (escByte b c) then [tf (escByte b c)] else [37, upB b, upB c]
def plainL (tf : UInt8 → UInt8) : List UInt8 → List UInt8
  | [] => []
  | [a] => [tf a]
  | [a, b] => [tf a, tf b]
  | a :: b :: c :: r => if a == 37 && isHex b && isHex c then outE tf b c ++ plainL tf r else tf a :: plainL tf (b :: c :: r)
theorem plain_cons (tf : UInt8 → UInt8) (a : UInt8) (l : List UInt8) (h : esc (a :: l) = false) : plainL tf (a :: l) = tf a :: plainL tf l := by
  match l with
  | [] => rfl
  | [b] => rfl
  | b :: c :: r =>
    rw [plainL]
    rw [show (a == 37 && isHex b && isHex c) = false from h]
    rfl
theorem plain_esc (tf : UInt8 → UInt8) (b c : UInt8) (r : List UInt8) (hb : isHex b = true) (hc : isHex c = true) : plainL tf (37 :: b :: c :: r) = outE tf b c ++ plainL tf r := by
  rw [plainL]
  rw [hb, hc]
  rfl
end Go.Proofs.YtjhgiojmlkeccaaGreatDoor
namespace Go.Proofs.YtjhgiojmlkeccaaGreatDoor
open Go.RowKit
theorem str_one (s : ByteArray) (c : UInt8) (hs : s.size = 1) (h0 : s[0]'(by omega) = c) : s = bs [c] := by
  apply bs_of
  have hl : s.data.toList.length = 1 := (len_size s).trans hs
  match h : s.data.toList, hl with
  | [d], _ =>
    have : s[0]'(by omega) = d := by
      have e : s.data.toList[0]? = some d := by rw [h]; rfl
      rw [List.getElem?_eq_getElem (by rw [h]; exact Nat.zero_lt_one)] at e
      exact Option.some.inj e
    rw [← h0, this]
set_option maxRecDepth 100000 in
set_option maxHeartbeats 1000000 in
theorem lower_s (s : ByteArray) (c : UInt8) (hs : s.size = 1) (h0 : s[0]'(by omega) = c) (hc : c.toNat < 128) (w : World) :
    Calls Tryz.prog 62 #[.string s] w fun e w' => e = .returned (.string (bs [lowB c])) ∧ Below w.heap.size w w' := by
  have hse := str_one s c hs h0
  by_cases hu : 65 ≤ c.toNat ∧ c.toNat ≤ 90
  · have hlb : lowB c = UInt8.ofNat (c.toNat + 32) := if_pos hu
    obtain ⟨u1, u2⟩ := hu
    have hn : (UInt8.ofNat (c.toNat + 32)).toNat = c.toNat + 32 := by rw [UInt8.toNat_ofNat']; omega
    rw [hlb]
    have HN := Lib.hid hn
    have hbk : (w.alloc (.cells #[.pointer none, .slice none 0 0] 156)).heap[w.heap.size]? = some (.cells #[.pointer none, .slice none 0 0] 156 (0, 0)) := heap_alloc_new w _
    have HG := Lib.hid (grow_any w.heap.size w.heap.size 1 _ (by decide) (by decide) (Nat.le_refl _) hbk (by simp))
    have v1 : (65 : Int) ≤ (c.toNat : Int) := by omega
    have v2 : (c.toNat : Int) ≤ 90 := by omega
    have v3 : (c.toNat : Int) < 128 := by omega
    clear hn hbk hse hlb
    go_enter Tryz.func62, Tryz.ntmps62
    go_wp2_with fail
    refine wp_loop_rounds 2 ?_
    rw [rounds_succ]
    go_wp2_with fail
    rw [rounds_succ]
    go_wp2_with fail
    refine HG.out.mono ?_; rintro e w2 ⟨rfl, hb2, hbw2⟩
    have hz2 : w.heap.size + 1 ≤ w2.heap.size := by have := hbw2.size; simpa using this
    have HB := Lib.hid hb2
    have HW := Lib.hid (((Below.refl w.heap.size w).alloc (Nat.le_refl _) _).trans hbw2)
    clear hb2 hbw2
    go_wp2_with fail
    refine wp_loop_rounds 2 ?_
    rw [rounds_succ]
    go_wp2_with fail
    refine (writeByte_any w.heap.size w.heap.size [] _ w2 (Or.inr HB.out) (by decide) (by omega)).mono ?_
    rintro e w3 ⟨rfl, hb3, hbw3⟩
    have hz3 : w.heap.size + 1 ≤ w3.heap.size := by have := hbw3.size; omega
    have HB3 : Hid (Lib.IsBuilder 156 5 w.heap.size w.heap.size (Lib.byteCells [UInt8.ofNat (c.toNat + 32)]) w3) := Lib.hid (by
      refine Or.inr ?_
      have e : Lib.byteCells [UInt8.ofNat (c.toNat + 32)] = [] ++ [Value.int .u8 ((c.toNat : Int) + 32)] := by
        unfold Lib.byteCells
        rw [List.map_singleton, HN.out]
        simp
      rw [e]; exact hb3)
    have HW3 := Lib.hid (HW.out.trans hbw3)
    clear hb3 hbw3
    go_wp2_with fail
    rw [rounds_succ]
    go_wp2_with fail
    refine (Tryz.Builder_String_any _ _ _ _ HB3.out (by omega)).mono ?_
    rintro e w4 ⟨rfl, hb4⟩
    have hfin := HW3.out.trans hb4
    go_wp2_with fail
    go_ret
    exact ⟨rfl, hfin⟩
  · have hlb : lowB c = c := if_neg hu
    rw [hlb, ← hse]
    have hu2 : ¬ (65 ≤ (c.toNat : Int) ∧ (c.toNat : Int) ≤ 90) := by omega
    clear hse hlb hu
    have hu3 : (c.toNat : Int) < 65 ∨ 90 < (c.toNat : Int) := by omega
    clear hu2
    have hc2 : (c.toNat : Int) < 128 := by omega
    rcases hu3 with hu3 | hu3
    case inr => 
      have hu4 : decide ((c.toNat : Int) ≤ 90) = false := decide_eq_false (by omega)
      go_enter Tryz.func62, Tryz.ntmps62
      go_wp2_with fail
      refine wp_loop_rounds 2 ?_
      rw [rounds_succ]
      go_wp2_with fail
      all_goals
        rw [rounds_succ]
        go_wp2_with fail
        go_ret
        exact ⟨rfl, Below.refl _ _⟩
    all_goals
      go_enter Tryz.func62, Tryz.ntmps62
      go_wp2_with fail
      refine wp_loop_rounds 2 ?_
      rw [rounds_succ]
      go_wp2_with fail
      rw [rounds_succ]
      go_wp2_with fail
      go_ret
      exact ⟨rfl, Below.refl _ _⟩
end Go.Proofs.YtjhgiojmlkeccaaGreatDoor
namespace Go.Proofs.YtjhgiojmlkeccaaGreatDoor
open Go.RowKit
/-- A builder in block b that holds these bytes. -/
def Bld (B b : Nat) (l : List UInt8) (w : World) : Prop := Lib.IsBuilder 156 5 B b (Lib.byteCells l) w
theorem wstr (B b : Nat) (l : List UInt8) (x : ByteArray) (w : World) (h : Bld B b l w) (hlen : l.length + x.size ≤ 100000000) (hBw : B ≤ w.heap.size) :
    Calls Tryz.prog 101 #[.pointer (some ⟨b, 0, none⟩), .string x] w fun e w' => e = .returned (.tuple #[.int .i64 x.size, .nilIface]) ∧ Bld B b (l ++ x.data.toList) w' ∧ Below B w w' ∧ Lib.OthersKept 5 (some b) w w' :=
  (write_anyQ B b _ x w h (by rw [Lib.byteCells_length]; omega) hBw).mono fun e w' ⟨he, h1, h2, h3⟩ => ⟨he, by
    unfold Bld
    have e : Lib.byteCells (l ++ x.data.toList) = Lib.byteCells l ++ Lib.strCells x := by
      unfold Lib.byteCells Lib.strCells
      rw [List.map_append]
    rw [e]
    exact Or.inr h1, h2, h3⟩
theorem wbyte (B b : Nat) (l : List UInt8) (c : UInt8) (n : Int) (hn : n = (c.toNat : Int)) (w : World) (h : Bld B b l w) (hlen : l.length + 1 ≤ 100000000) (hBw : B ≤ w.heap.size) :
    Calls Tryz.prog 106 #[.pointer (some ⟨b, 0, none⟩), .int .u8 n] w fun e w' => e = .returned .nilIface ∧ Bld B b (l ++ [c]) w' ∧ Below B w w' := by
  subst hn
  refine (writeByte_any B b _ _ w h (by rw [Lib.byteCells_length]; omega) hBw).mono ?_
  rintro e w' ⟨rfl, h1, h2⟩
  refine ⟨rfl, ?_, h2⟩
  unfold Bld
  have e : Lib.byteCells (l ++ [c]) = Lib.byteCells l ++ [Value.int .u8 c.toNat] := by
    unfold Lib.byteCells
    rw [List.map_append]; rfl
  rw [e]
  exact Or.inr h1
theorem wdone (B b : Nat) (l : List UInt8) (w : World) (h : Bld B b l w) (hBw : B ≤ w.heap.size) :
    Calls Tryz.prog 104 #[.pointer (some ⟨b, 0, none⟩)] w fun e w' => e = .returned (.string (bs l)) ∧ Below B w w' :=
  Tryz.Builder_String_any B b l w h hBw
theorem upB_low (c : UInt8) (h1 : 97 ≤ (c.toNat : Int)) (h2 : (c.toNat : Int) ≤ 122) : (c.toNat : Int) - 32 = ((upB c).toNat : Int) := by
  unfold upB
  rw [if_pos (by omega), UInt8.toNat_ofNat']; omega
theorem upB_not (c : UInt8) (h : (c.toNat : Int) < 97) : upB c = c := by
  unfold upB
  rw [if_neg (by omega)]
theorem low_range (c : UInt8) (h : isHex c = true) : (c.toNat : Int) < 97 ∨ (97 ≤ (c.toNat : Int) ∧ (c.toNat : Int) ≤ 102) := by
  rcases hexI_hex c with ⟨_, h1, _⟩ | ⟨h1, _⟩
  · unfold hexI at h1
    by_cases q : (c.toNat : Int) < 97
    · left; exact q
    · right
      rw [if_neg (by omega), if_neg (by omega)] at h1
      by_cases q2 : (c.toNat : Int) ≤ 102
      · exact ⟨by omega, q2⟩
      · rw [if_neg (by omega)] at h1; omega
  · rw [h] at h1; cases h1
theorem str_three (s : ByteArray) (c a b : UInt8) (hs : s.size = 3) (h0 : s[0]'(by omega) = c) (h1 : s[1]'(by omega) = a) (h2 : s[2]'(by omega) = b) : s = bs [c, a, b] := by
  apply bs_of
  have hl : s.data.toList.length = 3 := (len_size s).trans hs
  apply List.ext_getElem? 
  intro i
  match i with
  | 0 => rw [List.getElem?_eq_getElem (by omega)]; exact congrArg some h0
  | 1 => rw [List.getElem?_eq_getElem (by omega)]; exact congrArg some h1
  | 2 => rw [List.getElem?_eq_getElem (by omega)]; exact congrArg some h2
  | n + 3 => rw [List.getElem?_eq_none (by omega)]; rfl
theorem sub_three (c a b : UInt8) : ((bs [c, a, b]).extract 0 1).data.toList = [c] ∧ ((bs [c, a, b]).extract 0 2).data.toList = [c, a] ∧ ((bs [c, a, b]).extract 2 3).data.toList = [b] := by
  refine ⟨?_, ?_, ?_⟩ <;> (rw [ByteArray.data_extract, Array.toList_extract, List.extract_eq_take_drop, bs_list]; rfl)
set_option maxRecDepth 100000 in
set_option maxHeartbeats 2000000 in
theorem upper_s (s : ByteArray) (a b : UInt8) (hs : s.size = 3) (h0 : s[0]'(by omega) = 37) (h1 : s[1]'(by omega) = a) (h2 : s[2]'(by omega) = b) (ha : isHex a = true) (hb : isHex b = true) (w : World) :
    Calls Tryz.prog 103 #[.string s] w fun e w' => e = .returned (.string (bs [37, upB a, upB b])) ∧ Below w.heap.size w w' := by
  have hse := str_three s 37 a b hs h0 h1 h2
  obtain ⟨x1, x2, x3⟩ := sub_three 37 a b
  rw [← hse] at x1 x2 x3
  have ga : ((a.toNat : Int) < 97 ∧ (a.toNat : Int) < 128) ∨ (97 ≤ (a.toNat : Int) ∧ (a.toNat : Int) ≤ 102) := by
    have := low_range a ha; omega
  have gb : ((b.toNat : Int) < 97 ∧ (b.toNat : Int) < 128) ∨ (97 ≤ (b.toNat : Int) ∧ (b.toNat : Int) ≤ 102) := by
    have := low_range b hb; omega
  have X1 := Lib.hid x1
  have X2 := Lib.hid x2
  have X3 := Lib.hid x3
  have q0 : ((37 : UInt8).toNat : Int) = 37 := rfl
  have hbk : (w.alloc (.cells #[.pointer none, .slice none 0 0] 156)).heap[w.heap.size]? = some (.cells #[.pointer none, .slice none 0 0] 156 (0, 0)) := heap_alloc_new w _
  have HG := Lib.hid (grow_any w.heap.size w.heap.size 3 _ (by decide) (by decide) (Nat.le_refl _) hbk (by simp))
  have HA := Lib.hid (upB_low a)
  have HB := Lib.hid (upB_low b)
  have NA := Lib.hid (upB_not a)
  have NB := Lib.hid (upB_not b)
  have HS := Lib.hid hse
  clear x1 x2 x3 hbk hse ha hb
  generalize upB a = ua at *
  generalize upB b = ub at *
  rcases ga with ⟨g1, g2⟩ | ⟨g1, g2⟩ <;> rcases gb with ⟨k1, k2⟩ | ⟨k1, k2⟩
  · have ea := NA.out (by omega)
    have eb := NB.out (by omega)
    subst ea eb
    go_enter Tryz.func103, Tryz.ntmps103
    go_wp2_with fail
    refine wp_loop_rounds 4 ?_
    rw [rounds_succ]
    go_wp2_with fail
    rw [rounds_succ]
    go_wp2_with fail
    rw [rounds_succ]
    go_wp2_with fail
    rw [rounds_succ]
    go_wp2_with fail
    go_ret
    exact ⟨congrArg (fun z => Ending.returned (Value.string z)) HS.out, Below.refl _ _⟩
  · have k3 : (b.toNat : Int) ≤ 122 := by omega
    have ea := NA.out (by omega)
    subst ea
    go_enter Tryz.func103, Tryz.ntmps103
    go_wp2_with fail
    refine wp_loop_rounds 4 ?_
    rw [rounds_succ]
    go_wp2_with fail
    rw [rounds_succ]
    go_wp2_with fail
    rw [rounds_succ]
    go_wp2_with fail
    rw [rounds_succ]
    go_wp2_with fail
    refine HG.out.mono ?_; rintro e w2 ⟨rfl, hb2, hbw2⟩
    have hz2 : w.heap.size + 1 ≤ w2.heap.size := by have := hbw2.size; simpa using this
    have B2 : Hid (Bld w.heap.size w.heap.size [] w2) := Lib.hid (Or.inr hb2)
    have W2 := Lib.hid (((Below.refl w.heap.size w).alloc (Nat.le_refl _) _).trans hbw2)
    clear hb2 hbw2
    go_wp2_with fail
    refine wp_loop_rounds 4 ?_
    rw [rounds_succ]
    go_wp2_with fail
    rw [rounds_succ]
    go_wp2_with fail
    rw [rounds_succ]
    go_wp2_with fail
    refine (wstr w.heap.size w.heap.size _ _ w2 B2.out (by rw [ByteArray.size_extract, hs]; simp) (by omega)).mono ?_
    rintro e w3 ⟨rfl, hb3, hbw3, ho3⟩
    clear ho3
    rw [X2.out] at hb3
    have hz3 : w.heap.size + 1 ≤ w3.heap.size := by have := hbw3.size; omega
    have B3 := Lib.hid hb3
    have W3 := Lib.hid (W2.out.trans hbw3)
    clear hb3 hbw3
    go_wp2_with fail
    refine (wbyte w.heap.size w.heap.size _ ub _ (HB.out (by omega) (by omega)) w3 B3.out (by simp) (by omega)).mono ?_
    rintro e w4 ⟨rfl, hb4, hbw4⟩
    have hz4 : w.heap.size + 1 ≤ w4.heap.size := by have := hbw4.size; omega
    have B4 := Lib.hid hb4
    have W4 := Lib.hid (W3.out.trans hbw4)
    clear hb4 hbw4
    go_wp2_with fail
    rw [rounds_succ]
    go_wp2_with fail
    refine (wdone _ _ _ _ B4.out (by omega)).mono ?_
    rintro e w9 ⟨rfl, hb9⟩
    have hfin := W4.out.trans hb9
    go_wp2_with fail
    go_ret
    exact ⟨rfl, hfin⟩
  · have g3 : (a.toNat : Int) ≤ 122 := by omega
    have eb := NB.out (by omega)
    subst eb
    go_enter Tryz.func103, Tryz.ntmps103
    go_wp2_with fail
    refine wp_loop_rounds 4 ?_
    rw [rounds_succ]
    go_wp2_with fail
    rw [rounds_succ]
    go_wp2_with fail
    rw [rounds_succ]
    go_wp2_with fail
    rw [rounds_succ]
    go_wp2_with fail
    refine HG.out.mono ?_; rintro e w2 ⟨rfl, hb2, hbw2⟩
    have hz2 : w.heap.size + 1 ≤ w2.heap.size := by have := hbw2.size; simpa using this
    have B2 : Hid (Bld w.heap.size w.heap.size [] w2) := Lib.hid (Or.inr hb2)
    have W2 := Lib.hid (((Below.refl w.heap.size w).alloc (Nat.le_refl _) _).trans hbw2)
    clear hb2 hbw2
    go_wp2_with fail
    refine wp_loop_rounds 4 ?_
    rw [rounds_succ]
    go_wp2_with fail
    rw [rounds_succ]
    go_wp2_with fail
    refine (wstr w.heap.size w.heap.size _ _ w2 B2.out (by rw [ByteArray.size_extract, hs]; simp) (by omega)).mono ?_
    rintro e w3 ⟨rfl, hb3, hbw3, ho3⟩
    clear ho3
    rw [X1.out] at hb3
    have hz3 : w.heap.size + 1 ≤ w3.heap.size := by have := hbw3.size; omega
    have B3 := Lib.hid hb3
    have W3 := Lib.hid (W2.out.trans hbw3)
    clear hb3 hbw3
    go_wp2_with fail
    refine (wbyte w.heap.size w.heap.size _ ua _ (HA.out (by omega) (by omega)) w3 B3.out (by simp) (by omega)).mono ?_
    rintro e w4 ⟨rfl, hb4, hbw4⟩
    have hz4 : w.heap.size + 1 ≤ w4.heap.size := by have := hbw4.size; omega
    have B4 := Lib.hid hb4
    have W4 := Lib.hid (W3.out.trans hbw4)
    clear hb4 hbw4
    go_wp2_with fail
    rw [rounds_succ]
    go_wp2_with fail
    rw [rounds_succ]
    go_wp2_with fail
    refine (wstr w.heap.size w.heap.size _ _ w4 B4.out (by rw [ByteArray.size_extract, hs]; simp) (by omega)).mono ?_
    rintro e w5 ⟨rfl, hb5, hbw5, ho5⟩
    clear ho5
    rw [X3.out] at hb5
    have hz5 : w.heap.size + 1 ≤ w5.heap.size := by have := hbw5.size; omega
    have B5 := Lib.hid hb5
    have W5 := Lib.hid (W4.out.trans hbw5)
    clear hb5 hbw5
    go_wp2_with fail
    refine (wdone _ _ _ _ B5.out (by omega)).mono ?_
    rintro e w9 ⟨rfl, hb9⟩
    have hfin := W5.out.trans hb9
    go_wp2_with fail
    go_ret
    exact ⟨rfl, hfin⟩
  · have k3 : (b.toNat : Int) ≤ 122 := by omega
    have g3 : (a.toNat : Int) ≤ 122 := by omega
    go_enter Tryz.func103, Tryz.ntmps103
    go_wp2_with fail
    refine wp_loop_rounds 4 ?_
    rw [rounds_succ]
    go_wp2_with fail
    rw [rounds_succ]
    go_wp2_with fail
    rw [rounds_succ]
    go_wp2_with fail
    rw [rounds_succ]
    go_wp2_with fail
    refine HG.out.mono ?_; rintro e w2 ⟨rfl, hb2, hbw2⟩
    have hz2 : w.heap.size + 1 ≤ w2.heap.size := by have := hbw2.size; simpa using this
    have B2 : Hid (Bld w.heap.size w.heap.size [] w2) := Lib.hid (Or.inr hb2)
    have W2 := Lib.hid (((Below.refl w.heap.size w).alloc (Nat.le_refl _) _).trans hbw2)
    clear hb2 hbw2
    go_wp2_with fail
    refine wp_loop_rounds 4 ?_
    rw [rounds_succ]
    go_wp2_with fail
    rw [rounds_succ]
    go_wp2_with fail
    refine (wstr w.heap.size w.heap.size _ _ w2 B2.out (by rw [ByteArray.size_extract, hs]; simp) (by omega)).mono ?_
    rintro e w3 ⟨rfl, hb3, hbw3, ho3⟩
    clear ho3
    rw [X1.out] at hb3
    have hz3 : w.heap.size + 1 ≤ w3.heap.size := by have := hbw3.size; omega
    have B3 := Lib.hid hb3
    have W3 := Lib.hid (W2.out.trans hbw3)
    clear hb3 hbw3
    go_wp2_with fail
    refine (wbyte w.heap.size w.heap.size _ ua _ (HA.out (by omega) (by omega)) w3 B3.out (by simp) (by omega)).mono ?_
    rintro e w4 ⟨rfl, hb4, hbw4⟩
    have hz4 : w.heap.size + 1 ≤ w4.heap.size := by have := hbw4.size; omega
    have B4 := Lib.hid hb4
    have W4 := Lib.hid (W3.out.trans hbw4)
    clear hb4 hbw4
    go_wp2_with fail
    rw [rounds_succ]
    go_wp2_with fail
    refine (wbyte w.heap.size w.heap.size _ ub _ (HB.out (by omega) (by omega)) w4 B4.out (by simp) (by omega)).mono ?_
    rintro e w5 ⟨rfl, hb5, hbw5⟩
    have hz5 : w.heap.size + 1 ≤ w5.heap.size := by have := hbw5.size; omega
    have B5 := Lib.hid hb5
    have W5 := Lib.hid (W4.out.trans hbw5)
    clear hb5 hbw5
    go_wp2_with fail
    rw [rounds_succ]
    go_wp2_with fail
    refine (wdone _ _ _ _ B5.out (by omega)).mono ?_
    rintro e w9 ⟨rfl, hb9⟩
    have hfin := W5.out.trans hb9
    go_wp2_with fail
    go_ret
    exact ⟨rfl, hfin⟩
end Go.Proofs.YtjhgiojmlkeccaaGreatDoor
namespace Go.Proofs.YtjhgiojmlkeccaaGreatDoor
open Go.RowKit
theorem own_below {w w' : World} {B e size n : Nat} {v : Value} {xs : List Value} (h : w.ownsRow B e size v n xs) (hb : Below w.heap.size w w') : w'.ownsRow B e size v n xs := by
  obtain ⟨h1, h2⟩ := h
  refine ⟨h1, ?_⟩
  rcases h2 with h2 | ⟨g, cap, cur, hv, hB, hg, hrest⟩
  · exact Or.inl h2
  · have hlt : g < w.heap.size := (Array.getElem?_eq_some_iff.1 hg).1
    exact Or.inr ⟨g, cap, cur, hv, hB, (hb.block g hlt).trans hg, hrest⟩
theorem Bld.below {B b : Nat} {l : List UInt8} {w w' : World} (h : Bld B b l w) (hb : Below w.heap.size w w') : Bld B b l w' := by
  have key : ∀ {p : Value}, Lib.BuilderAt 156 5 B b p (Lib.byteCells l) w → Lib.BuilderAt 156 5 B b p (Lib.byteCells l) w' := by
    rintro p ⟨hB, v, hbk, hown, hne⟩
    have hlt : b < w.heap.size := (Array.getElem?_eq_some_iff.1 hbk).1
    exact ⟨hB, v, (hb.block b hlt).trans hbk, own_below hown hb, hne⟩
  rcases h with h | h
  · exact Or.inl (key h)
  · exact Or.inr (key h)
theorem free_ascii (c : UInt8) (h : isFree c = true) : c.toNat < 128 := by
  have g := all_bytes (f := fun c => (!isFree c || decide (c.toNat < 128))) (g := fun _ => true) (by decide +kernel) c
  simp only [h, Bool.not_true, Bool.false_or, decide_eq_true_eq] at g
  exact g
theorem encode_ascii (c : UInt8) (h : c.toNat < 128) : Utf8.encode (c.toNat : Int) = bs [c] := by
  have hv : Utf8.valid (c.toNat : Int) = true := by
    simp only [Utf8.valid, Bool.or_eq_true, Bool.and_eq_true, decide_eq_true_eq]
    left; omega
  unfold Utf8.encode
  simp only [hv, if_true, Int.toNat_natCast]
  rw [if_pos h, UInt8.ofNat_toNat]
  rfl
/-- plain's state: the builder's bytes, the set's words. -/
def PS (w : World) (bd b2 : Nat) (out : List UInt8) (W : World) : Prop :=
  Bld w.heap.size bd out W ∧ W.heap[b2]? = some (.cells #[.int .u64 288054454291267584, .int .u64 5188146764422578174, .int .u64 0, .int .u64 0] 158 (0, 0)) ∧ w.heap.size ≤ W.heap.size ∧ Below w.heap.size w W
theorem PS.below {w W w1 : World} {bd b2 : Nat} {out : List UInt8} (h : PS w bd b2 out W) (hb : Below W.heap.size W w1) : PS w bd b2 out w1 := by
  obtain ⟨h1, h2, h3, h4⟩ := h
  exact ⟨h1.below hb, (hb.block _ (Array.getElem?_eq_some_iff.1 h2).1).trans h2, Nat.le_trans h3 hb.size, h4.trans (hb.mono h3)⟩
theorem pwrite {w W : World} {bd b2 : Nat} {out : List UInt8} (h : PS w bd b2 out W) (hne : b2 ≠ bd) (x : ByteArray) (hlen : out.length + x.size ≤ 100000000) :
    Calls Tryz.prog 101 #[.pointer (some ⟨bd, 0, none⟩), .string x] W fun e w' => e = .returned (.tuple #[.int .i64 x.size, .nilIface]) ∧ PS w bd b2 (out ++ x.data.toList) w' := by
  obtain ⟨h1, h2, h3, h4⟩ := h
  refine (wstr w.heap.size bd out x W h1 hlen h3).mono ?_
  rintro e w' ⟨rfl, k1, k2, k3⟩
  exact ⟨rfl, k1, k3 b2 _ h2 (by intro e; injection e; contradiction) (by intro c fz e; injection e with _ e2 _; exact absurd e2 (by decide)), Nat.le_trans h3 k2.size, h4.trans k2⟩
theorem pset_cells {w W : World} {bd b2 : Nat} {out : List UInt8} (h : PS w bd b2 out W) : W.cell? ⟨b2, 0, none⟩ = some (.int .u64 288054454291267584) ∧ W.cell? ⟨b2, 1, none⟩ = some (.int .u64 5188146764422578174) ∧ W.cell? ⟨b2, 2, none⟩ = some (.int .u64 0) ∧ W.cell? ⟨b2, 3, none⟩ = some (.int .u64 0) := by
  have := h.2.1
  refine ⟨?_, ?_, ?_, ?_⟩ <;> (rw [Lib.cell_of_heap this]; rfl)
set_option maxRecDepth 100000 in
set_option maxHeartbeats 4000000 in
theorem plain_lower (tf : UInt8 → UInt8) (HTF : Hid (∀ (c : UInt8) (V : World), c.toNat < 128 → Calls Tryz.prog 62 #[.string (bs [c])] V fun e w' => e = .returned (.string (bs [tf c])) ∧ Below V.heap.size V w'))
    (s : ByteArray) (hs : s.size ≤ 100000) (hasc : Hid (∀ c ∈ s.data.toList, c.toNat < 128)) (w : World) :
    Calls Tryz.prog 61 #[.string s, .func (.func 62) #[] #[]] w fun e w' => e = .returned (.string (bs (plainL tf s.data.toList))) ∧ Below w.heap.size w w' := by
  obtain ⟨A, hA, HO, HH, _⟩ := set_free
  obtain ⟨l, hl⟩ : ∃ l, s.data.toList = l := ⟨_, rfl⟩
  obtain rfl : s = bs l := bs_of s l hl
  rw [bs_list] at *
  have hll : l.length ≤ 100000 := by rw [← bs_size]; exact hs
  obtain ⟨r, hr⟩ : ∃ r, plainL tf l = r := ⟨_, rfl⟩
  have HR := Lib.hid hr
  rw [hr]
  clear hr hl
  go_enter Tryz.func61, Tryz.ntmps61
  go_wp2_with fail
  refine (HO.out _ _ (by simp [go_sem]) (by simp)).mono ?_
  rintro e w1 ⟨rfl, hb1⟩
  subst hA
  have hz1 : w.heap.size + 2 ≤ w1.heap.size := by have := hb1.size; simpa using this
  have hP0 : PS w w.heap.size w1.heap.size [] (w1.alloc (.cells #[.int .u64 288054454291267584, .int .u64 5188146764422578174, .int .u64 0, .int .u64 0] 158)) := by
    have hbk : w1.heap[w.heap.size]? = some (.cells #[.pointer none, .slice none 0 0] 156 (0, 0)) := by
      rw [hb1.block _ (by first | (simp; done) | (simp; omega)), Below.heap_alloc _ _ _ (by first | (simp; done) | (simp; omega))]
      exact heap_alloc_new w _
    refine ⟨?_, heap_alloc_new w1 _, by simp; omega, ?_⟩
    · refine Or.inl ⟨Nat.le_refl _, .slice none 0 0, ?_, World.ownsRow_nil _ _ _ _, by simp [Value.ownBlock]⟩
      rw [Below.heap_alloc _ _ _ (by omega)]; exact hbk
    · exact ((((Below.refl w.heap.size w).alloc (Nat.le_refl _) _).alloc (by simp) _).trans (hb1.mono (by simp; omega))).alloc (by omega) _
  have HP0 := Lib.hid hP0
  have hne0 : ¬ w1.heap.size = w.heap.size := by omega
  clear hP0 hb1 HO
  go_wp2_with fail
  go_loopg [0] l.length (fun k u wr => ∃ (j : Nat) (out : List UInt8), u = .string (bs (l.drop j)) ∧ k + j = l.length ∧ out.length ≤ j ∧ Hid (PS w w.heap.size w1.heap.size out wr) ∧ Hid (out ++ plainL tf (l.drop j) = r))
  case atStart => exact ⟨0, [], rfl, by omega, by simp, HP0, Lib.hid (by rw [List.drop_zero]; exact HR.out)⟩
  case round =>
    rename World => wo
    obtain ⟨j, out, rfl, hk, hout, HP, HJ⟩ := hrel
    obtain ⟨c0, c1, c2, c3⟩ := pset_cells HP.out
    cases ht : l.drop j with
    | nil =>
      have HF : Hid (out = r) := Lib.hid (by have := HJ.out; rw [ht] at this; simpa [plainL] using this)
      have he1 : (bs ([] : List UInt8)).toList = [] := by rw [ByteArray.toList_eq]; rfl
      have he2 : (bs ([] : List UInt8)).toList.isEmpty = true := by rw [he1]; rfl
      clear HJ ht
      go_wp2_with fail
      refine (wdone w.heap.size w.heap.size out wo HP.out.1 HP.out.2.2.1).mono ?_
      rintro e w3 ⟨rfl, hb3⟩
      have hfin := HP.out.2.2.2.trans hb3
      go_wp2_with fail
      go_ret
      exact ⟨congrArg (fun z => Ending.returned (Value.string (bs z))) HF.out, hfin⟩
    | cons a t =>
      have hjl : j < l.length := by
        rcases Nat.lt_or_ge j l.length with q | q
        · exact q
        · rw [List.drop_of_length_le q] at ht; cases ht
      have htl : t = l.drop (j + 1) := by
        have := List.drop_eq_getElem_cons hjl
        rw [ht] at this
        exact (List.cons.inj this).2
      have ha : a.toNat < 128 := hasc.out a (by
        have : a ∈ l.drop j := by rw [ht]; exact List.mem_cons_self
        exact List.mem_of_mem_drop this)
      have hlen : t.length + 1 = l.length - j := by
        have := congrArg List.length ht
        rw [List.length_drop, List.length_cons] at this
        omega
      have he1 : ¬ (bs (a :: t)).toList = [] := by rw [ByteArray.toList_eq]; exact List.cons_ne_nil _ _
      have he2 : (bs (a :: t)).toList.isEmpty = false := by rw [ByteArray.toList_eq]; rfl
      have hsz : (bs (a :: t)).size = t.length + 1 := by rw [bs_size]; rfl
      rw [ht] at HJ
      cases he : esc (a :: t) with
      | false =>
        have HE := Lib.hid (fun w => byteOf_no (bs (a :: t)) (by omega) he w)
        have HJ2 : Hid ((out ++ [tf a]) ++ plainL tf (l.drop (j + 1)) = r) := Lib.hid (by
          have := HJ.out
          rw [plain_cons tf a t he] at this
          rw [← htl, List.append_assoc]; exact this)
        have hx1 : (bs (a :: t)).extract 0 1 = bs [a] := (extract_bs (a :: t) 1 (by simp)).1
        have hx2 : (bs (a :: t)).extract 1 (t.length + 1) = bs (l.drop (j + 1)) := by
          have := (extract_bs (a :: t) 1 (by simp)).2
          rw [hsz] at this
          rw [this, ← htl]; rfl
        have HTa := Lib.hid (fun V => HTF.out a V ha)
        obtain ⟨g, rfl⟩ : ∃ g, gk = g + 1 := ⟨gk - 1, by omega⟩
        clear he HJ ht htl hlen
        obtain ⟨S, hS⟩ : ∃ S, bs (a :: t) = S := ⟨_, rfl⟩
        obtain ⟨S2, hS2⟩ : ∃ S2, bs (l.drop (j + 1)) = S2 := ⟨_, rfl⟩
        rw [hS] at hsz he1 he2 hx1 hx2 HE ⊢
        rw [hS2] at hx2
        have HS2 := Lib.hid hS2
        clear hS hS2
        go_wp2_with fail
        refine (HE.out _).mono ?_; rintro e w2 ⟨rfl, hb2⟩
        have P2 := Lib.hid (HP.out.below hb2)
        clear hb2 c0 c1 c2 c3
        go_wp2_with fail
        refine (HTa.out _).mono ?_; rintro e w3 ⟨rfl, hb3⟩
        have P3 := Lib.hid (P2.out.below hb3)
        clear hb3
        go_wp2_with fail
        refine (pwrite P3.out hne0 (bs [tf a]) (by rw [bs_size]; simp; omega)).mono ?_
        rintro e w4 ⟨rfl, h4⟩
        have P4 := Lib.hid h4
        clear h4
        go_wp2_with fail
        go_roundg g
        case measure => omega
        case rel => exact ⟨j + 1, out ++ [tf a], by rw [HS2.out], by omega, by simp; omega, P4, HJ2⟩
      | true =>
        obtain ⟨b, c, t2, rfl⟩ : ∃ b c t2, t = b :: c :: t2 := by
          match t, he with
          | [], he => cases he
          | [b], he => cases he
          | b :: c :: t2, _ => exact ⟨b, c, t2, rfl⟩
        have he' := he
        simp only [esc, Bool.and_eq_true] at he
        obtain ⟨⟨ea, hb⟩, hc⟩ := he
        obtain rfl : a = 37 := by simpa using ea
        have hjl3 : j + 3 ≤ l.length := by simp only [List.length_cons] at hlen; omega
        have htl3 : t2 = l.drop (j + 3) := by
          have := congrArg (List.drop 2) htl
          rw [List.drop_drop] at this
          exact this
        have hvn : (16 * hexI b.toNat + hexI c.toNat) = ((escByte b c).toNat : Int) := by
          have q1 := hexI_hex b
          have q2 := hexI_hex c
          rw [hb] at q1
          rw [hc] at q2
          simp at q1 q2
          unfold escByte
          rw [UInt8.toNat_ofNat']
          omega
        have HE0 := Lib.hid (fun w => byteOf_yes (bs (37 :: b :: c :: t2)) (by omega) (by simp only [List.length_cons] at hsz; omega) he' w)
        have HE : Hid (∀ w, Calls Tryz.prog 100 #[.string (bs (37 :: b :: c :: t2))] w fun e w' => e = .returned (.tuple #[.int .u8 ((escByte b c).toNat : Int), .bool true]) ∧ Below w.heap.size w w') := Lib.hid (fun w => (HE0.out w).mono fun e w' ⟨q, q'⟩ => ⟨by rw [q, ← hvn]; rfl, q'⟩)
        clear HE0
        have HJ2 : Hid ((out ++ outE tf b c) ++ plainL tf (l.drop (j + 3)) = r) := Lib.hid (by
          have := HJ.out
          rw [plain_esc tf b c t2 hb hc] at this
          rw [← htl3, List.append_assoc]; exact this)
        have hx1 : (bs (37 :: b :: c :: t2)).extract 0 3 = bs [37, b, c] := (extract_bs (37 :: b :: c :: t2) 3 (by simp)).1
        have hx2 : (bs (37 :: b :: c :: t2)).extract 3 ((b :: c :: t2).length + 1) = bs (l.drop (j + 3)) := by
          have := (extract_bs (37 :: b :: c :: t2) 3 (by simp)).2
          rw [hsz] at this
          rw [this, ← htl3]; rfl
        have HU := Lib.hid (fun V => upper_s (bs [37, b, c]) b c rfl rfl rfl rfl hb hc V)
        have HF := Lib.hid (fun V => HH.out V (escByte b c))
        have hE128 : isFree (escByte b c) = true → (escByte b c).toNat < 128 := free_ascii (escByte b c)
        obtain ⟨g, rfl⟩ : ∃ g, gk = g + 3 := ⟨gk - 3, by simp only [List.length_cons] at hlen; omega⟩
        have h3 : 2 < (b :: c :: t2).length + 1 := by simp only [List.length_cons]; omega
        clear he' HJ ht htl htl3 hb hc ea hvn ha hlen
        obtain ⟨S, hS⟩ : ∃ S, bs (37 :: b :: c :: t2) = S := ⟨_, rfl⟩
        obtain ⟨S2, hS2⟩ : ∃ S2, bs (l.drop (j + 3)) = S2 := ⟨_, rfl⟩
        rw [hS] at hsz he1 he2 hx1 hx2 HE ⊢
        rw [hS2] at hx2
        have HS2 := Lib.hid hS2
        clear hS hS2
        generalize (b :: c :: t2).length = tn at *
        cases hfr : isFree (escByte b c) with
        | true =>
          have hE := hE128 hfr
          have HJ3 : Hid ((out ++ [tf (escByte b c)]) ++ plainL tf (l.drop (j + 3)) = r) := Lib.hid (by
            have := HJ2.out; unfold outE at this; rw [if_pos hfr] at this; exact this)
          rw [hfr] at HF
          have HTa := Lib.hid (fun V => HTF.out (escByte b c) V hE)
          have henc : Utf8.encode ((escByte b c).toNat : Int) = bs [escByte b c] := encode_ascii (escByte b c) hE
          have hE2 : ((escByte b c).toNat : Int) < 128 := by omega
          clear hE128 hfr HJ2 HU hx1
          generalize escByte b c = x at *
          go_wp2_with fail
          refine (HE.out _).mono ?_; rintro e w2 ⟨rfl, hb2⟩
          have P2 := Lib.hid (HP.out.below hb2)
          clear hb2 c0 c1 c2 c3
          obtain ⟨c0, c1, c2, c3⟩ := pset_cells P2.out
          go_wp2_with fail
          refine (HF.out _).mono ?_; rintro e w3 ⟨rfl, hb3⟩
          have P3 := Lib.hid (P2.out.below hb3)
          clear hb3 c0 c1 c2 c3
          go_wp2_with fail
          refine (HTa.out _).mono ?_; rintro e w4 ⟨rfl, hb4⟩
          have P4 := Lib.hid (P3.out.below hb4)
          clear hb4
          go_wp2_with fail
          refine (pwrite P4.out hne0 (bs [tf x]) (by rw [bs_size]; simp; omega)).mono ?_
          rintro e w5 ⟨rfl, h5⟩
          have P5 := Lib.hid h5
          clear h5
          go_wp2_with fail
          go_roundg g
          case measure => omega
          case rel => exact ⟨j + 3, out ++ [tf x], by rw [HS2.out], by omega, by simp; omega, P5, HJ3⟩
        | false =>
          have HJ3 : Hid ((out ++ [37, upB b, upB c]) ++ plainL tf (l.drop (j + 3)) = r) := Lib.hid (by
            have := HJ2.out; unfold outE at this; rw [if_neg (by rw [hfr]; decide)] at this; exact this)
          rw [hfr] at HF
          clear hE128 hfr HJ2
          generalize escByte b c = x at *
          go_wp2_with fail
          refine (HE.out _).mono ?_; rintro e w2 ⟨rfl, hb2⟩
          have P2 := Lib.hid (HP.out.below hb2)
          clear hb2 c0 c1 c2 c3
          obtain ⟨c0, c1, c2, c3⟩ := pset_cells P2.out
          go_wp2_with fail
          refine (HF.out _).mono ?_; rintro e w3 ⟨rfl, hb3⟩
          have P3 := Lib.hid (P2.out.below hb3)
          clear hb3 c0 c1 c2 c3
          go_wp2_with fail
          refine (HU.out _).mono ?_; rintro e w4 ⟨rfl, hb4⟩
          have P4 := Lib.hid (P3.out.below hb4)
          clear hb4
          go_wp2_with fail
          refine (pwrite P4.out hne0 (bs [37, upB b, upB c]) (by rw [bs_size]; simp; omega)).mono ?_
          rintro e w5 ⟨rfl, h5⟩
          have P5 := Lib.hid h5
          clear h5
          go_wp2_with fail
          go_roundg g
          case measure => omega
          case rel => exact ⟨j + 3, out ++ [37, upB b, upB c], by rw [HS2.out], by omega, by simp; omega, P5, HJ3⟩
set_option maxRecDepth 100000 in
set_option maxHeartbeats 4000000 in
theorem plain_same (tf : UInt8 → UInt8) (HTF : Hid (∀ (c : UInt8) (V : World), c.toNat < 128 → Calls Tryz.prog 60 #[.string (bs [c])] V fun e w' => e = .returned (.string (bs [tf c])) ∧ Below V.heap.size V w'))
    (s : ByteArray) (hs : s.size ≤ 100000) (hasc : Hid (∀ c ∈ s.data.toList, c.toNat < 128)) (w : World) :
    Calls Tryz.prog 61 #[.string s, .func (.func 60) #[] #[]] w fun e w' => e = .returned (.string (bs (plainL tf s.data.toList))) ∧ Below w.heap.size w w' := by
  obtain ⟨A, hA, HO, HH, _⟩ := set_free
  obtain ⟨l, hl⟩ : ∃ l, s.data.toList = l := ⟨_, rfl⟩
  obtain rfl : s = bs l := bs_of s l hl
  rw [bs_list] at *
  have hll : l.length ≤ 100000 := by rw [← bs_size]; exact hs
  obtain ⟨r, hr⟩ : ∃ r, plainL tf l = r := ⟨_, rfl⟩
  have HR := Lib.hid hr
  rw [hr]
  clear hr hl
  go_enter Tryz.func61, Tryz.ntmps61
  go_wp2_with fail
  refine (HO.out _ _ (by simp [go_sem]) (by simp)).mono ?_
  rintro e w1 ⟨rfl, hb1⟩
  subst hA
  have hz1 : w.heap.size + 2 ≤ w1.heap.size := by have := hb1.size; simpa using this
  have hP0 : PS w w.heap.size w1.heap.size [] (w1.alloc (.cells #[.int .u64 288054454291267584, .int .u64 5188146764422578174, .int .u64 0, .int .u64 0] 158)) := by
    have hbk : w1.heap[w.heap.size]? = some (.cells #[.pointer none, .slice none 0 0] 156 (0, 0)) := by
      rw [hb1.block _ (by first | (simp; done) | (simp; omega)), Below.heap_alloc _ _ _ (by first | (simp; done) | (simp; omega))]
      exact heap_alloc_new w _
    refine ⟨?_, heap_alloc_new w1 _, by simp; omega, ?_⟩
    · refine Or.inl ⟨Nat.le_refl _, .slice none 0 0, ?_, World.ownsRow_nil _ _ _ _, by simp [Value.ownBlock]⟩
      rw [Below.heap_alloc _ _ _ (by omega)]; exact hbk
    · exact ((((Below.refl w.heap.size w).alloc (Nat.le_refl _) _).alloc (by simp) _).trans (hb1.mono (by simp; omega))).alloc (by omega) _
  have HP0 := Lib.hid hP0
  have hne0 : ¬ w1.heap.size = w.heap.size := by omega
  clear hP0 hb1 HO
  go_wp2_with fail
  go_loopg [0] l.length (fun k u wr => ∃ (j : Nat) (out : List UInt8), u = .string (bs (l.drop j)) ∧ k + j = l.length ∧ out.length ≤ j ∧ Hid (PS w w.heap.size w1.heap.size out wr) ∧ Hid (out ++ plainL tf (l.drop j) = r))
  case atStart => exact ⟨0, [], rfl, by omega, by simp, HP0, Lib.hid (by rw [List.drop_zero]; exact HR.out)⟩
  case round =>
    rename World => wo
    obtain ⟨j, out, rfl, hk, hout, HP, HJ⟩ := hrel
    obtain ⟨c0, c1, c2, c3⟩ := pset_cells HP.out
    cases ht : l.drop j with
    | nil =>
      have HF : Hid (out = r) := Lib.hid (by have := HJ.out; rw [ht] at this; simpa [plainL] using this)
      have he1 : (bs ([] : List UInt8)).toList = [] := by rw [ByteArray.toList_eq]; rfl
      have he2 : (bs ([] : List UInt8)).toList.isEmpty = true := by rw [he1]; rfl
      clear HJ ht
      go_wp2_with fail
      refine (wdone w.heap.size w.heap.size out wo HP.out.1 HP.out.2.2.1).mono ?_
      rintro e w3 ⟨rfl, hb3⟩
      have hfin := HP.out.2.2.2.trans hb3
      go_wp2_with fail
      go_ret
      exact ⟨congrArg (fun z => Ending.returned (Value.string (bs z))) HF.out, hfin⟩
    | cons a t =>
      have hjl : j < l.length := by
        rcases Nat.lt_or_ge j l.length with q | q
        · exact q
        · rw [List.drop_of_length_le q] at ht; cases ht
      have htl : t = l.drop (j + 1) := by
        have := List.drop_eq_getElem_cons hjl
        rw [ht] at this
        exact (List.cons.inj this).2
      have ha : a.toNat < 128 := hasc.out a (by
        have : a ∈ l.drop j := by rw [ht]; exact List.mem_cons_self
        exact List.mem_of_mem_drop this)
      have hlen : t.length + 1 = l.length - j := by
        have := congrArg List.length ht
        rw [List.length_drop, List.length_cons] at this
        omega
      have he1 : ¬ (bs (a :: t)).toList = [] := by rw [ByteArray.toList_eq]; exact List.cons_ne_nil _ _
      have he2 : (bs (a :: t)).toList.isEmpty = false := by rw [ByteArray.toList_eq]; rfl
      have hsz : (bs (a :: t)).size = t.length + 1 := by rw [bs_size]; rfl
      rw [ht] at HJ
      cases he : esc (a :: t) with
      | false =>
        have HE := Lib.hid (fun w => byteOf_no (bs (a :: t)) (by omega) he w)
        have HJ2 : Hid ((out ++ [tf a]) ++ plainL tf (l.drop (j + 1)) = r) := Lib.hid (by
          have := HJ.out
          rw [plain_cons tf a t he] at this
          rw [← htl, List.append_assoc]; exact this)
        have hx1 : (bs (a :: t)).extract 0 1 = bs [a] := (extract_bs (a :: t) 1 (by simp)).1
        have hx2 : (bs (a :: t)).extract 1 (t.length + 1) = bs (l.drop (j + 1)) := by
          have := (extract_bs (a :: t) 1 (by simp)).2
          rw [hsz] at this
          rw [this, ← htl]; rfl
        have HTa := Lib.hid (fun V => HTF.out a V ha)
        obtain ⟨g, rfl⟩ : ∃ g, gk = g + 1 := ⟨gk - 1, by omega⟩
        clear he HJ ht htl hlen
        obtain ⟨S, hS⟩ : ∃ S, bs (a :: t) = S := ⟨_, rfl⟩
        obtain ⟨S2, hS2⟩ : ∃ S2, bs (l.drop (j + 1)) = S2 := ⟨_, rfl⟩
        rw [hS] at hsz he1 he2 hx1 hx2 HE ⊢
        rw [hS2] at hx2
        have HS2 := Lib.hid hS2
        clear hS hS2
        go_wp2_with fail
        refine (HE.out _).mono ?_; rintro e w2 ⟨rfl, hb2⟩
        have P2 := Lib.hid (HP.out.below hb2)
        clear hb2 c0 c1 c2 c3
        go_wp2_with fail
        refine (HTa.out _).mono ?_; rintro e w3 ⟨rfl, hb3⟩
        have P3 := Lib.hid (P2.out.below hb3)
        clear hb3
        go_wp2_with fail
        refine (pwrite P3.out hne0 (bs [tf a]) (by rw [bs_size]; simp; omega)).mono ?_
        rintro e w4 ⟨rfl, h4⟩
        have P4 := Lib.hid h4
        clear h4
        go_wp2_with fail
        go_roundg g
        case measure => omega
        case rel => exact ⟨j + 1, out ++ [tf a], by rw [HS2.out], by omega, by simp; omega, P4, HJ2⟩
      | true =>
        obtain ⟨b, c, t2, rfl⟩ : ∃ b c t2, t = b :: c :: t2 := by
          match t, he with
          | [], he => cases he
          | [b], he => cases he
          | b :: c :: t2, _ => exact ⟨b, c, t2, rfl⟩
        have he' := he
        simp only [esc, Bool.and_eq_true] at he
        obtain ⟨⟨ea, hb⟩, hc⟩ := he
        obtain rfl : a = 37 := by simpa using ea
        have hjl3 : j + 3 ≤ l.length := by simp only [List.length_cons] at hlen; omega
        have htl3 : t2 = l.drop (j + 3) := by
          have := congrArg (List.drop 2) htl
          rw [List.drop_drop] at this
          exact this
        have hvn : (16 * hexI b.toNat + hexI c.toNat) = ((escByte b c).toNat : Int) := by
          have q1 := hexI_hex b
          have q2 := hexI_hex c
          rw [hb] at q1
          rw [hc] at q2
          simp at q1 q2
          unfold escByte
          rw [UInt8.toNat_ofNat']
          omega
        have HE0 := Lib.hid (fun w => byteOf_yes (bs (37 :: b :: c :: t2)) (by omega) (by simp only [List.length_cons] at hsz; omega) he' w)
        have HE : Hid (∀ w, Calls Tryz.prog 100 #[.string (bs (37 :: b :: c :: t2))] w fun e w' => e = .returned (.tuple #[.int .u8 ((escByte b c).toNat : Int), .bool true]) ∧ Below w.heap.size w w') := Lib.hid (fun w => (HE0.out w).mono fun e w' ⟨q, q'⟩ => ⟨by rw [q, ← hvn]; rfl, q'⟩)
        clear HE0
        have HJ2 : Hid ((out ++ outE tf b c) ++ plainL tf (l.drop (j + 3)) = r) := Lib.hid (by
          have := HJ.out
          rw [plain_esc tf b c t2 hb hc] at this
          rw [← htl3, List.append_assoc]; exact this)
        have hx1 : (bs (37 :: b :: c :: t2)).extract 0 3 = bs [37, b, c] := (extract_bs (37 :: b :: c :: t2) 3 (by simp)).1
        have hx2 : (bs (37 :: b :: c :: t2)).extract 3 ((b :: c :: t2).length + 1) = bs (l.drop (j + 3)) := by
          have := (extract_bs (37 :: b :: c :: t2) 3 (by simp)).2
          rw [hsz] at this
          rw [this, ← htl3]; rfl
        have HU := Lib.hid (fun V => upper_s (bs [37, b, c]) b c rfl rfl rfl rfl hb hc V)
        have HF := Lib.hid (fun V => HH.out V (escByte b c))
        have hE128 : isFree (escByte b c) = true → (escByte b c).toNat < 128 := free_ascii (escByte b c)
        obtain ⟨g, rfl⟩ : ∃ g, gk = g + 3 := ⟨gk - 3, by simp only [List.length_cons] at hlen; omega⟩
        have h3 : 2 < (b :: c :: t2).length + 1 := by simp only [List.length_cons]; omega
        clear he' HJ ht htl htl3 hb hc ea hvn ha hlen
        obtain ⟨S, hS⟩ : ∃ S, bs (37 :: b :: c :: t2) = S := ⟨_, rfl⟩
        obtain ⟨S2, hS2⟩ : ∃ S2, bs (l.drop (j + 3)) = S2 := ⟨_, rfl⟩
        rw [hS] at hsz he1 he2 hx1 hx2 HE ⊢
        rw [hS2] at hx2
        have HS2 := Lib.hid hS2
        clear hS hS2
        generalize (b :: c :: t2).length = tn at *
        cases hfr : isFree (escByte b c) with
        | true =>
          have hE := hE128 hfr
          have HJ3 : Hid ((out ++ [tf (escByte b c)]) ++ plainL tf (l.drop (j + 3)) = r) := Lib.hid (by
            have := HJ2.out; unfold outE at this; rw [if_pos hfr] at this; exact this)
          rw [hfr] at HF
          have HTa := Lib.hid (fun V => HTF.out (escByte b c) V hE)
          have henc : Utf8.encode ((escByte b c).toNat : Int) = bs [escByte b c] := encode_ascii (escByte b c) hE
          have hE2 : ((escByte b c).toNat : Int) < 128 := by omega
          clear hE128 hfr HJ2 HU hx1
          generalize escByte b c = x at *
          go_wp2_with fail
          refine (HE.out _).mono ?_; rintro e w2 ⟨rfl, hb2⟩
          have P2 := Lib.hid (HP.out.below hb2)
          clear hb2 c0 c1 c2 c3
          obtain ⟨c0, c1, c2, c3⟩ := pset_cells P2.out
          go_wp2_with fail
          refine (HF.out _).mono ?_; rintro e w3 ⟨rfl, hb3⟩
          have P3 := Lib.hid (P2.out.below hb3)
          clear hb3 c0 c1 c2 c3
          go_wp2_with fail
          refine (HTa.out _).mono ?_; rintro e w4 ⟨rfl, hb4⟩
          have P4 := Lib.hid (P3.out.below hb4)
          clear hb4
          go_wp2_with fail
          refine (pwrite P4.out hne0 (bs [tf x]) (by rw [bs_size]; simp; omega)).mono ?_
          rintro e w5 ⟨rfl, h5⟩
          have P5 := Lib.hid h5
          clear h5
          go_wp2_with fail
          go_roundg g
          case measure => omega
          case rel => exact ⟨j + 3, out ++ [tf x], by rw [HS2.out], by omega, by simp; omega, P5, HJ3⟩
        | false =>
          have HJ3 : Hid ((out ++ [37, upB b, upB c]) ++ plainL tf (l.drop (j + 3)) = r) := Lib.hid (by
            have := HJ2.out; unfold outE at this; rw [if_neg (by rw [hfr]; decide)] at this; exact this)
          rw [hfr] at HF
          clear hE128 hfr HJ2
          generalize escByte b c = x at *
          go_wp2_with fail
          refine (HE.out _).mono ?_; rintro e w2 ⟨rfl, hb2⟩
          have P2 := Lib.hid (HP.out.below hb2)
          clear hb2 c0 c1 c2 c3
          obtain ⟨c0, c1, c2, c3⟩ := pset_cells P2.out
          go_wp2_with fail
          refine (HF.out _).mono ?_; rintro e w3 ⟨rfl, hb3⟩
          have P3 := Lib.hid (P2.out.below hb3)
          clear hb3 c0 c1 c2 c3
          go_wp2_with fail
          refine (HU.out _).mono ?_; rintro e w4 ⟨rfl, hb4⟩
          have P4 := Lib.hid (P3.out.below hb4)
          clear hb4
          go_wp2_with fail
          refine (pwrite P4.out hne0 (bs [37, upB b, upB c]) (by rw [bs_size]; simp; omega)).mono ?_
          rintro e w5 ⟨rfl, h5⟩
          have P5 := Lib.hid h5
          clear h5
          go_wp2_with fail
          go_roundg g
          case measure => omega
          case rel => exact ⟨j + 3, out ++ [37, upB b, upB c], by rw [HS2.out], by omega, by simp; omega, P5, HJ3⟩
set_option maxRecDepth 100000 in
theorem same_anyQ (s : ByteArray) (w : World) :
    Calls Tryz.prog 60 #[.string s] w fun e w' => e = .returned (.string s) ∧ Below w.heap.size w w' := by
  go_enter Tryz.func60, Tryz.ntmps60
  go_wp2_with fail
  go_ret
  exact ⟨rfl, Below.refl _ _⟩
theorem plain_small (s : ByteArray) (hs : s.size ≤ 100000) (hasc : Hid (∀ c ∈ s.data.toList, c.toNat < 128)) (w : World) :
    Calls Tryz.prog 61 #[.string s, .func (.func 62) #[] #[]] w fun e w' => e = .returned (.string (bs (plainL lowB s.data.toList))) ∧ Below w.heap.size w w' :=
  plain_lower lowB (Lib.hid fun c V h => lower_s (bs [c]) c rfl rfl h V) s hs hasc w
theorem plain_kept (s : ByteArray) (hs : s.size ≤ 100000) (hasc : Hid (∀ c ∈ s.data.toList, c.toNat < 128)) (w : World) :
    Calls Tryz.prog 61 #[.string s, .func (.func 60) #[] #[]] w fun e w' => e = .returned (.string (bs (plainL id s.data.toList))) ∧ Below w.heap.size w w' :=
  plain_same id (Lib.hid fun c V _ => same_anyQ (bs [c]) V) s hs hasc w
end Go.Proofs.YtjhgiojmlkeccaaGreatDoor
namespace Go.Proofs.YtjhgiojmlkeccaaGreatDoor
open Go.RowKit
set_option maxRecDepth 100000 in
theorem canon_no (s : ByteArray) (H1 : Hid (Does 59 #[.string s] (.tuple #[zeroA, .int .i64 150]))) (w : World) :
    Calls Tryz.prog 39 #[.string s] w fun e w' => e = .returned (.tuple #[.string ⟨#[]⟩, .int .i64 150]) ∧ Below w.heap.size w w' := by
  unfold zeroA at H1
  go_enter Tryz.func39, Tryz.ntmps39
  go_wp2_with fail
  refine (H1.out _).mono ?_; rintro e w1 ⟨rfl, hb1⟩
  go_wp2_with fail
  go_ret2
  refine ⟨rfl, ?_⟩
  exact hb1.alloc hb1.size _
theorem acons {P : Program} {ops : Array Oper} {Q : Exit → Act → World → Prop} {md : Region.Mode} {S : World → Prop} (i : Nat) {fuel : Nat} {listed : Array Bool} {a : Act} {w : World} {o : Oper} {rs : List Nat} (ho : ops.toList[i]? = some o)
    (h : ∀ K' : Act → World → Prop, Shut (∀ a w, S w → (S w → wpAnyH P md ops Q S fuel (listed.setIfInBounds i true) a w) → K' a w) → if Region.wanted o (yielded ops a.tmps) = true then Oper.wp P o a w K' Q else K' (a.put o.dst undef) w)
    (hs : AllReadyH P md ops Q S fuel listed a w rs) : AllReadyH P md ops Q S fuel listed a w (i :: rs) :=
  AllReadyH.cons (by rw [← Array.getElem?_toList]; exact ho) h hs
/-- The own block holds these cells, and nothing older has turned. -/
def CK (w : World) (b : Nat) (A : Array Value) (W : World) : Prop := W.heap[b]? = some (.cells A 101 (0, 0)) ∧ w.heap.size ≤ W.heap.size ∧ w.heap.size ≤ b ∧ Below w.heap.size w W
theorem CK.below {w W w1 : World} {b : Nat} {A : Array Value} (h : CK w b A W) (hb : Below W.heap.size W w1) : CK w b A w1 :=
  ⟨(hb.block b (Array.getElem?_eq_some_iff.1 h.1).1).trans h.1, Nat.le_trans h.2.1 hb.size, h.2.2.1, h.2.2.2.trans (hb.mono h.2.1)⟩
theorem CK.drew {w W : World} {b : Nat} {A : Array Value} (h : CK w b A W) : CK w b A W.drew := ⟨h.1, h.2.1, h.2.2.1, h.2.2.2.drew⟩
theorem CK.set {w W : World} {b i : Nat} {A A' : Array Value} (h : CK w b A W) (v : Value) (hA : A.setIfInBounds i v = A') : CK w b A' (W.setCell ⟨b, i, none⟩ v) :=
  ⟨psetQ h.1 v hA, by simpa [World.setCell] using h.2.1, h.2.2.1, h.2.2.2.setCell (p := ⟨b, i, none⟩) h.2.2.1 v⟩
set_option maxRecDepth 100000 in
set_option maxHeartbeats 4000000 in
theorem canon_go (s sc us ho po pa qu sc2 us2 ho2 pa2 qu2 tx : ByteArray) (hu hq : Bool) (H1 : Hid (Does 59 #[.string s] (.tuple #[.agg #[.string sc, .string us, .string ho, .string po, .string pa, .string qu, .bool hu, .bool hq], .int .i64 0])))
    (L1 : Hid (Does 61 #[.string sc, .func (.func 62) #[] #[]] (.string sc2))) (L2 : Hid (Does 61 #[.string ho, .func (.func 62) #[] #[]] (.string ho2))) (K1 : Hid (Does 61 #[.string us, .func (.func 60) #[] #[]] (.string us2))) (K2 : Hid (Does 61 #[.string pa, .func (.func 60) #[] #[]] (.string pa2))) (K3 : Hid (Does 61 #[.string qu, .func (.func 60) #[] #[]] (.string qu2)))
    (HT : Hid (Does 63 #[.agg #[.string sc2, .string us2, .string ho2, .string po, .string pa2, .string qu2, .bool hu, .bool hq]] (.string tx))) (w : World) :
    Calls Tryz.prog 39 #[.string s] w fun e w' => e = .returned (.tuple #[.string tx, .int .i64 0]) ∧ Below w.heap.size w w' := by
  go_enter Tryz.func39, Tryz.ntmps39
  go_wp2_with fail
  refine (H1.out _).mono ?_; rintro e w1 ⟨rfl, hb1⟩
  go_wp2_with fail
  have ck : CK w w1.heap.size #[.string sc, .string us, .string ho, .string po, .string pa, .string qu, .bool hu, .bool hq] (w1.alloc (.cells #[.string sc, .string us, .string ho, .string po, .string pa, .string qu, .bool hu, .bool hq] 101)) := ⟨heap_alloc_new w1 _, by have := hb1.size; simp; omega, hb1.size, hb1.alloc hb1.size _⟩
  generalize w1.alloc (.cells #[.string sc, .string us, .string ho, .string po, .string pa, .string qu, .bool hu, .bool hq] 101) = W at *
  generalize w1.heap.size = b at *
  obtain ⟨⟨c0, c1, c2, c3, c4, c5, c6, c7⟩, ⟨g0, g1, g2, g3, g4, g5, g6, g7⟩, hz⟩ := pcells ck.1
  go_upto_region 6 with fail
  go_cut [17] (fun s17 wx => CK w b #[.string sc2, .string us, .string ho2, .string po, .string pa, .string qu, .bool hu, .bool hq] wx)
  case first =>
    refine wp_region_held_drew (S := fun _ => True) (by kernel_rfl) trivial (fun hHeld => ?_)
    refine tkyQ 0 (some 15) (v := ?_) rfl (by kernel_rfl) (by kernel_rfl) (by kernel_rfl) (fun _ _ _ h => h) ?_ hHeld ?_
    rotate_left
    focus (intro w hSw; go_simp; (try with_reducible rfl); done)
    go_frame
    refine tkyQ 3 (some 18) (v := ?_) rfl (by kernel_rfl) (by kernel_rfl) (by kernel_rfl) (fun _ _ _ h => h) ?_ hHeld ?_
    rotate_left
    focus (intro w hSw; go_simp; (try with_reducible rfl); done)
    go_frame
    refine wpAnyH_ready (rs := [1, 4]) (by kernel_rfl) (by simp) ?_
    refine acons 1 rfl (fun K hK => ?_) ?_
    · go_simp
      refine hK.out _ _ trivial (fun _ => ?_)
      clear hK K
      (try go_frame)
      refine wpAnyH_ready (rs := [2, 4]) (by kernel_rfl) (by simp) ?_
      refine acons 2 rfl (fun K hK => ?_) ?_
      · go_simp
        refine (L1.out _).mono ?_; rintro e w2 ⟨rfl, hb⟩
        (try dsimp only)
        refine hK.out _ _ trivial (fun _ => ?_)
        clear hK K
        (try go_frame)
        have ck2 := (by first | exact CK.below ck hb | exact CK.below (CK.drew ck) hb : CK w b _ w2)
        clear ck hb c0 c1 c2 c3 c4 c5 c6 c7 g0 g1 g2 g3 g4 g5 g6 g7 hz
        have ck := ck2
        clear ck2
        obtain ⟨⟨c0, c1, c2, c3, c4, c5, c6, c7⟩, ⟨g0, g1, g2, g3, g4, g5, g6, g7⟩, hz⟩ := pcells ck.1
        refine rconsQ 4 rfl (by kernel_rfl) (fun K hK => ?_)
        go_simp
        refine hK.out _ _ trivial (fun _ => ?_)
        clear hK K
        (try go_frame)
        refine tkyQ 6 (some 21) (v := ?_) rfl (by kernel_rfl) (by kernel_rfl) (by kernel_rfl) (fun _ _ _ h => h) ?_ hHeld ?_
        rotate_left
        focus (intro w hSw; go_simp; (try with_reducible rfl); done)
        go_frame
        refine rconsQ 5 rfl (by kernel_rfl) (fun K hK => ?_)
        go_simp
        refine (L2.out _).mono ?_; rintro e w2 ⟨rfl, hb⟩
        (try dsimp only)
        refine hK.out _ _ trivial (fun _ => ?_)
        clear hK K
        (try go_frame)
        have ck2 := (by first | exact CK.below ck hb | exact CK.below (CK.drew ck) hb : CK w b _ w2)
        clear ck hb c0 c1 c2 c3 c4 c5 c6 c7 g0 g1 g2 g3 g4 g5 g6 g7 hz
        have ck := ck2
        clear ck2
        obtain ⟨⟨c0, c1, c2, c3, c4, c5, c6, c7⟩, ⟨g0, g1, g2, g3, g4, g5, g6, g7⟩, hz⟩ := pcells ck.1
        refine rconsQ 7 rfl (by kernel_rfl) (fun K hK => ?_)
        go_simp
        refine hK.out _ _ trivial (fun _ => ?_)
        clear hK K
        (try go_frame)
        refine tkyQ 8 (some 22) (v := ?_) rfl (by kernel_rfl) (by kernel_rfl) (by kernel_rfl) (fun _ _ _ h => h) ?_ hHeld ?_
        rotate_left
        focus (intro w hSw; go_simp; (try with_reducible rfl); done)
        go_frame
        refine rconsQ 9 rfl (by kernel_rfl) (fun K hK => ?_)
        go_simp
        refine hK.out _ _ trivial (fun _ => ?_)
        clear hK K
        (try go_frame)
        refine wpAnyH_done (by kernel_rfl) ?_ _
        go_wp2_with fail
        go_meet
        exact (ck.set (i := 0) (.string sc2) rfl).set (i := 2) (.string ho2) rfl
      refine acons 4 rfl (fun K hK => ?_) ?_
      · go_simp
        refine hK.out _ _ trivial (fun _ => ?_)
        clear hK K
        (try go_frame)
        refine rconsQ 2 rfl (by kernel_rfl) (fun K hK => ?_)
        go_simp
        refine (L1.out _).mono ?_; rintro e w2 ⟨rfl, hb⟩
        (try dsimp only)
        refine hK.out _ _ trivial (fun _ => ?_)
        clear hK K
        (try go_frame)
        have ck2 := (by first | exact CK.below ck hb | exact CK.below (CK.drew ck) hb : CK w b _ w2)
        clear ck hb c0 c1 c2 c3 c4 c5 c6 c7 g0 g1 g2 g3 g4 g5 g6 g7 hz
        have ck := ck2
        clear ck2
        obtain ⟨⟨c0, c1, c2, c3, c4, c5, c6, c7⟩, ⟨g0, g1, g2, g3, g4, g5, g6, g7⟩, hz⟩ := pcells ck.1
        refine tkyQ 6 (some 21) (v := ?_) rfl (by kernel_rfl) (by kernel_rfl) (by kernel_rfl) (fun _ _ _ h => h) ?_ hHeld ?_
        rotate_left
        focus (intro w hSw; go_simp; (try with_reducible rfl); done)
        go_frame
        refine rconsQ 5 rfl (by kernel_rfl) (fun K hK => ?_)
        go_simp
        refine (L2.out _).mono ?_; rintro e w2 ⟨rfl, hb⟩
        (try dsimp only)
        refine hK.out _ _ trivial (fun _ => ?_)
        clear hK K
        (try go_frame)
        have ck2 := (by first | exact CK.below ck hb | exact CK.below (CK.drew ck) hb : CK w b _ w2)
        clear ck hb c0 c1 c2 c3 c4 c5 c6 c7 g0 g1 g2 g3 g4 g5 g6 g7 hz
        have ck := ck2
        clear ck2
        obtain ⟨⟨c0, c1, c2, c3, c4, c5, c6, c7⟩, ⟨g0, g1, g2, g3, g4, g5, g6, g7⟩, hz⟩ := pcells ck.1
        refine rconsQ 7 rfl (by kernel_rfl) (fun K hK => ?_)
        go_simp
        refine hK.out _ _ trivial (fun _ => ?_)
        clear hK K
        (try go_frame)
        refine tkyQ 8 (some 22) (v := ?_) rfl (by kernel_rfl) (by kernel_rfl) (by kernel_rfl) (fun _ _ _ h => h) ?_ hHeld ?_
        rotate_left
        focus (intro w hSw; go_simp; (try with_reducible rfl); done)
        go_frame
        refine rconsQ 9 rfl (by kernel_rfl) (fun K hK => ?_)
        go_simp
        refine hK.out _ _ trivial (fun _ => ?_)
        clear hK K
        (try go_frame)
        refine wpAnyH_done (by kernel_rfl) ?_ _
        go_wp2_with fail
        go_meet
        exact (ck.set (i := 0) (.string sc2) rfl).set (i := 2) (.string ho2) rfl
      exact AllReadyH.nil
    refine acons 4 rfl (fun K hK => ?_) ?_
    · go_simp
      refine hK.out _ _ trivial (fun _ => ?_)
      clear hK K
      (try go_frame)
      refine rconsQ 1 rfl (by kernel_rfl) (fun K hK => ?_)
      go_simp
      refine hK.out _ _ trivial (fun _ => ?_)
      clear hK K
      (try go_frame)
      refine rconsQ 2 rfl (by kernel_rfl) (fun K hK => ?_)
      go_simp
      refine (L1.out _).mono ?_; rintro e w2 ⟨rfl, hb⟩
      (try dsimp only)
      refine hK.out _ _ trivial (fun _ => ?_)
      clear hK K
      (try go_frame)
      have ck2 := (by first | exact CK.below ck hb | exact CK.below (CK.drew ck) hb : CK w b _ w2)
      clear ck hb c0 c1 c2 c3 c4 c5 c6 c7 g0 g1 g2 g3 g4 g5 g6 g7 hz
      have ck := ck2
      clear ck2
      obtain ⟨⟨c0, c1, c2, c3, c4, c5, c6, c7⟩, ⟨g0, g1, g2, g3, g4, g5, g6, g7⟩, hz⟩ := pcells ck.1
      refine tkyQ 6 (some 21) (v := ?_) rfl (by kernel_rfl) (by kernel_rfl) (by kernel_rfl) (fun _ _ _ h => h) ?_ hHeld ?_
      rotate_left
      focus (intro w hSw; go_simp; (try with_reducible rfl); done)
      go_frame
      refine rconsQ 5 rfl (by kernel_rfl) (fun K hK => ?_)
      go_simp
      refine (L2.out _).mono ?_; rintro e w2 ⟨rfl, hb⟩
      (try dsimp only)
      refine hK.out _ _ trivial (fun _ => ?_)
      clear hK K
      (try go_frame)
      have ck2 := (by first | exact CK.below ck hb | exact CK.below (CK.drew ck) hb : CK w b _ w2)
      clear ck hb c0 c1 c2 c3 c4 c5 c6 c7 g0 g1 g2 g3 g4 g5 g6 g7 hz
      have ck := ck2
      clear ck2
      obtain ⟨⟨c0, c1, c2, c3, c4, c5, c6, c7⟩, ⟨g0, g1, g2, g3, g4, g5, g6, g7⟩, hz⟩ := pcells ck.1
      refine rconsQ 7 rfl (by kernel_rfl) (fun K hK => ?_)
      go_simp
      refine hK.out _ _ trivial (fun _ => ?_)
      clear hK K
      (try go_frame)
      refine tkyQ 8 (some 22) (v := ?_) rfl (by kernel_rfl) (by kernel_rfl) (by kernel_rfl) (fun _ _ _ h => h) ?_ hHeld ?_
      rotate_left
      focus (intro w hSw; go_simp; (try with_reducible rfl); done)
      go_frame
      refine rconsQ 9 rfl (by kernel_rfl) (fun K hK => ?_)
      go_simp
      refine hK.out _ _ trivial (fun _ => ?_)
      clear hK K
      (try go_frame)
      refine wpAnyH_done (by kernel_rfl) ?_ _
      go_wp2_with fail
      go_meet
      exact (ck.set (i := 0) (.string sc2) rfl).set (i := 2) (.string ho2) rfl
    exact AllReadyH.nil
  case rest =>
    clear ck c0 c1 c2 c3 c4 c5 c6 c7 g0 g1 g2 g3 g4 g5 g6 g7 hz
    rename World => wc
    have ck := hcut
    clear hcut
    obtain ⟨⟨c0, c1, c2, c3, c4, c5, c6, c7⟩, ⟨g0, g1, g2, g3, g4, g5, g6, g7⟩, hz⟩ := pcells ck.1
    go_upto_region 7 with fail
    go_cut [26] (fun s26 wx => CK w b #[.string sc2, .string us2, .string ho2, .string po, .string pa2, .string qu2, .bool hu, .bool hq] wx)
    case first =>
      refine wp_region_held_drew (S := fun _ => True) (by kernel_rfl) trivial (fun hHeld => ?_)
      refine tkyQ 0 (some 23) (v := ?_) rfl (by kernel_rfl) (by kernel_rfl) (by kernel_rfl) (fun _ _ _ h => h) ?_ hHeld ?_
      rotate_left
      focus (intro w hSw; go_simp; (try with_reducible rfl); done)
      go_frame
      refine tkyQ 2 (some 25) (v := ?_) rfl (by kernel_rfl) (by kernel_rfl) (by kernel_rfl) (fun _ _ _ h => h) ?_ hHeld ?_
      rotate_left
      focus (intro w hSw; go_simp; (try with_reducible rfl); done)
      go_frame
      refine tkyQ 4 (some 27) (v := ?_) rfl (by kernel_rfl) (by kernel_rfl) (by kernel_rfl) (fun _ _ _ h => h) ?_ hHeld ?_
      rotate_left
      focus (intro w hSw; go_simp; (try with_reducible rfl); done)
      go_frame
      refine tkyQ 6 (some 29) (v := ?_) rfl (by kernel_rfl) (by kernel_rfl) (by kernel_rfl) (fun _ _ _ h => h) ?_ hHeld ?_
      rotate_left
      focus (intro w hSw; go_simp; (try with_reducible rfl); done)
      go_frame
      refine tkyQ 8 (some 31) (v := ?_) rfl (by kernel_rfl) (by kernel_rfl) (by kernel_rfl) (fun _ _ _ h => h) ?_ hHeld ?_
      rotate_left
      focus (intro w hSw; go_simp; (try with_reducible rfl); done)
      go_frame
      refine tkyQ 10 (some 33) (v := ?_) rfl (by kernel_rfl) (by kernel_rfl) (by kernel_rfl) (fun _ _ _ h => h) ?_ hHeld ?_
      rotate_left
      focus (intro w hSw; go_simp; (try with_reducible rfl); done)
      go_frame
      refine wpAnyH_ready (rs := [1, 5, 9]) (by kernel_rfl) (by simp) ?_
      refine acons 1 rfl (fun K hK => ?_) ?_
      · go_simp
        refine hK.out _ _ trivial (fun _ => ?_)
        clear hK K
        (try go_frame)
        refine wpAnyH_ready (rs := [3, 5, 9]) (by kernel_rfl) (by simp) ?_
        refine acons 3 rfl (fun K hK => ?_) ?_
        · go_simp
          refine (K1.out _).mono ?_; rintro e w2 ⟨rfl, hb⟩
          (try dsimp only)
          refine hK.out _ _ trivial (fun _ => ?_)
          clear hK K
          (try go_frame)
          have ck2 := (by first | exact CK.below ck hb | exact CK.below (CK.drew ck) hb : CK w b _ w2)
          clear ck hb c0 c1 c2 c3 c4 c5 c6 c7 g0 g1 g2 g3 g4 g5 g6 g7 hz
          have ck := ck2
          clear ck2
          obtain ⟨⟨c0, c1, c2, c3, c4, c5, c6, c7⟩, ⟨g0, g1, g2, g3, g4, g5, g6, g7⟩, hz⟩ := pcells ck.1
          refine wpAnyH_ready (rs := [5, 9]) (by kernel_rfl) (by simp) ?_
          refine acons 5 rfl (fun K hK => ?_) ?_
          · go_simp
            refine hK.out _ _ trivial (fun _ => ?_)
            clear hK K
            (try go_frame)
            refine wpAnyH_ready (rs := [7, 9]) (by kernel_rfl) (by simp) ?_
            refine acons 7 rfl (fun K hK => ?_) ?_
            · go_simp
              refine (K2.out _).mono ?_; rintro e w2 ⟨rfl, hb⟩
              (try dsimp only)
              refine hK.out _ _ trivial (fun _ => ?_)
              clear hK K
              (try go_frame)
              have ck2 := (by first | exact CK.below ck hb | exact CK.below (CK.drew ck) hb : CK w b _ w2)
              clear ck hb c0 c1 c2 c3 c4 c5 c6 c7 g0 g1 g2 g3 g4 g5 g6 g7 hz
              have ck := ck2
              clear ck2
              obtain ⟨⟨c0, c1, c2, c3, c4, c5, c6, c7⟩, ⟨g0, g1, g2, g3, g4, g5, g6, g7⟩, hz⟩ := pcells ck.1
              refine rconsQ 9 rfl (by kernel_rfl) (fun K hK => ?_)
              go_simp
              refine hK.out _ _ trivial (fun _ => ?_)
              clear hK K
              (try go_frame)
              refine tkyQ 12 (some 35) (v := ?_) rfl (by kernel_rfl) (by kernel_rfl) (by kernel_rfl) (fun _ _ _ h => h) ?_ hHeld ?_
              rotate_left
              focus (intro w hSw; go_simp; (try with_reducible rfl); done)
              go_frame
              refine rconsQ 11 rfl (by kernel_rfl) (fun K hK => ?_)
              go_simp
              refine (K3.out _).mono ?_; rintro e w2 ⟨rfl, hb⟩
              (try dsimp only)
              refine hK.out _ _ trivial (fun _ => ?_)
              clear hK K
              (try go_frame)
              have ck2 := (by first | exact CK.below ck hb | exact CK.below (CK.drew ck) hb : CK w b _ w2)
              clear ck hb c0 c1 c2 c3 c4 c5 c6 c7 g0 g1 g2 g3 g4 g5 g6 g7 hz
              have ck := ck2
              clear ck2
              obtain ⟨⟨c0, c1, c2, c3, c4, c5, c6, c7⟩, ⟨g0, g1, g2, g3, g4, g5, g6, g7⟩, hz⟩ := pcells ck.1
              refine rconsQ 13 rfl (by kernel_rfl) (fun K hK => ?_)
              go_simp
              refine hK.out _ _ trivial (fun _ => ?_)
              clear hK K
              (try go_frame)
              refine tkyQ 14 (some 36) (v := ?_) rfl (by kernel_rfl) (by kernel_rfl) (by kernel_rfl) (fun _ _ _ h => h) ?_ hHeld ?_
              rotate_left
              focus (intro w hSw; go_simp; (try with_reducible rfl); done)
              go_frame
              refine rconsQ 15 rfl (by kernel_rfl) (fun K hK => ?_)
              go_simp
              refine hK.out _ _ trivial (fun _ => ?_)
              clear hK K
              (try go_frame)
              refine tkyQ 16 (some 37) (v := ?_) rfl (by kernel_rfl) (by kernel_rfl) (by kernel_rfl) (fun _ _ _ h => h) ?_ hHeld ?_
              rotate_left
              focus (intro w hSw; go_simp; (try with_reducible rfl); done)
              go_frame
              refine rconsQ 17 rfl (by kernel_rfl) (fun K hK => ?_)
              go_simp
              refine hK.out _ _ trivial (fun _ => ?_)
              clear hK K
              (try go_frame)
              refine wpAnyH_done (by kernel_rfl) ?_ _
              go_wp2_with fail
              go_meet
              exact ((ck.set (i := 1) (.string us2) rfl).set (i := 4) (.string pa2) rfl).set (i := 5) (.string qu2) rfl
            refine acons 9 rfl (fun K hK => ?_) ?_
            · go_simp
              refine hK.out _ _ trivial (fun _ => ?_)
              clear hK K
              (try go_frame)
              refine tkyQ 12 (some 35) (v := ?_) rfl (by kernel_rfl) (by kernel_rfl) (by kernel_rfl) (fun _ _ _ h => h) ?_ hHeld ?_
              rotate_left
              focus (intro w hSw; go_simp; (try with_reducible rfl); done)
              go_frame
              refine rconsQ 7 rfl (by kernel_rfl) (fun K hK => ?_)
              go_simp
              refine (K2.out _).mono ?_; rintro e w2 ⟨rfl, hb⟩
              (try dsimp only)
              refine hK.out _ _ trivial (fun _ => ?_)
              clear hK K
              (try go_frame)
              have ck2 := (by first | exact CK.below ck hb | exact CK.below (CK.drew ck) hb : CK w b _ w2)
              clear ck hb c0 c1 c2 c3 c4 c5 c6 c7 g0 g1 g2 g3 g4 g5 g6 g7 hz
              have ck := ck2
              clear ck2
              obtain ⟨⟨c0, c1, c2, c3, c4, c5, c6, c7⟩, ⟨g0, g1, g2, g3, g4, g5, g6, g7⟩, hz⟩ := pcells ck.1
              refine rconsQ 11 rfl (by kernel_rfl) (fun K hK => ?_)
              go_simp
              refine (K3.out _).mono ?_; rintro e w2 ⟨rfl, hb⟩
              (try dsimp only)
              refine hK.out _ _ trivial (fun _ => ?_)
              clear hK K
              (try go_frame)
              have ck2 := (by first | exact CK.below ck hb | exact CK.below (CK.drew ck) hb : CK w b _ w2)
              clear ck hb c0 c1 c2 c3 c4 c5 c6 c7 g0 g1 g2 g3 g4 g5 g6 g7 hz
              have ck := ck2
              clear ck2
              obtain ⟨⟨c0, c1, c2, c3, c4, c5, c6, c7⟩, ⟨g0, g1, g2, g3, g4, g5, g6, g7⟩, hz⟩ := pcells ck.1
              refine rconsQ 13 rfl (by kernel_rfl) (fun K hK => ?_)
              go_simp
              refine hK.out _ _ trivial (fun _ => ?_)
              clear hK K
              (try go_frame)
              refine tkyQ 14 (some 36) (v := ?_) rfl (by kernel_rfl) (by kernel_rfl) (by kernel_rfl) (fun _ _ _ h => h) ?_ hHeld ?_
              rotate_left
              focus (intro w hSw; go_simp; (try with_reducible rfl); done)
              go_frame
              refine rconsQ 15 rfl (by kernel_rfl) (fun K hK => ?_)
              go_simp
              refine hK.out _ _ trivial (fun _ => ?_)
              clear hK K
              (try go_frame)
              refine tkyQ 16 (some 37) (v := ?_) rfl (by kernel_rfl) (by kernel_rfl) (by kernel_rfl) (fun _ _ _ h => h) ?_ hHeld ?_
              rotate_left
              focus (intro w hSw; go_simp; (try with_reducible rfl); done)
              go_frame
              refine rconsQ 17 rfl (by kernel_rfl) (fun K hK => ?_)
              go_simp
              refine hK.out _ _ trivial (fun _ => ?_)
              clear hK K
              (try go_frame)
              refine wpAnyH_done (by kernel_rfl) ?_ _
              go_wp2_with fail
              go_meet
              exact ((ck.set (i := 1) (.string us2) rfl).set (i := 4) (.string pa2) rfl).set (i := 5) (.string qu2) rfl
            exact AllReadyH.nil
          refine acons 9 rfl (fun K hK => ?_) ?_
          · go_simp
            refine hK.out _ _ trivial (fun _ => ?_)
            clear hK K
            (try go_frame)
            refine rconsQ 5 rfl (by kernel_rfl) (fun K hK => ?_)
            go_simp
            refine hK.out _ _ trivial (fun _ => ?_)
            clear hK K
            (try go_frame)
            refine tkyQ 12 (some 35) (v := ?_) rfl (by kernel_rfl) (by kernel_rfl) (by kernel_rfl) (fun _ _ _ h => h) ?_ hHeld ?_
            rotate_left
            focus (intro w hSw; go_simp; (try with_reducible rfl); done)
            go_frame
            refine rconsQ 7 rfl (by kernel_rfl) (fun K hK => ?_)
            go_simp
            refine (K2.out _).mono ?_; rintro e w2 ⟨rfl, hb⟩
            (try dsimp only)
            refine hK.out _ _ trivial (fun _ => ?_)
            clear hK K
            (try go_frame)
            have ck2 := (by first | exact CK.below ck hb | exact CK.below (CK.drew ck) hb : CK w b _ w2)
            clear ck hb c0 c1 c2 c3 c4 c5 c6 c7 g0 g1 g2 g3 g4 g5 g6 g7 hz
            have ck := ck2
            clear ck2
            obtain ⟨⟨c0, c1, c2, c3, c4, c5, c6, c7⟩, ⟨g0, g1, g2, g3, g4, g5, g6, g7⟩, hz⟩ := pcells ck.1
            refine rconsQ 11 rfl (by kernel_rfl) (fun K hK => ?_)
            go_simp
            refine (K3.out _).mono ?_; rintro e w2 ⟨rfl, hb⟩
            (try dsimp only)
            refine hK.out _ _ trivial (fun _ => ?_)
            clear hK K
            (try go_frame)
            have ck2 := (by first | exact CK.below ck hb | exact CK.below (CK.drew ck) hb : CK w b _ w2)
            clear ck hb c0 c1 c2 c3 c4 c5 c6 c7 g0 g1 g2 g3 g4 g5 g6 g7 hz
            have ck := ck2
            clear ck2
            obtain ⟨⟨c0, c1, c2, c3, c4, c5, c6, c7⟩, ⟨g0, g1, g2, g3, g4, g5, g6, g7⟩, hz⟩ := pcells ck.1
            refine rconsQ 13 rfl (by kernel_rfl) (fun K hK => ?_)
            go_simp
            refine hK.out _ _ trivial (fun _ => ?_)
            clear hK K
            (try go_frame)
            refine tkyQ 14 (some 36) (v := ?_) rfl (by kernel_rfl) (by kernel_rfl) (by kernel_rfl) (fun _ _ _ h => h) ?_ hHeld ?_
            rotate_left
            focus (intro w hSw; go_simp; (try with_reducible rfl); done)
            go_frame
            refine rconsQ 15 rfl (by kernel_rfl) (fun K hK => ?_)
            go_simp
            refine hK.out _ _ trivial (fun _ => ?_)
            clear hK K
            (try go_frame)
            refine tkyQ 16 (some 37) (v := ?_) rfl (by kernel_rfl) (by kernel_rfl) (by kernel_rfl) (fun _ _ _ h => h) ?_ hHeld ?_
            rotate_left
            focus (intro w hSw; go_simp; (try with_reducible rfl); done)
            go_frame
            refine rconsQ 17 rfl (by kernel_rfl) (fun K hK => ?_)
            go_simp
            refine hK.out _ _ trivial (fun _ => ?_)
            clear hK K
            (try go_frame)
            refine wpAnyH_done (by kernel_rfl) ?_ _
            go_wp2_with fail
            go_meet
            exact ((ck.set (i := 1) (.string us2) rfl).set (i := 4) (.string pa2) rfl).set (i := 5) (.string qu2) rfl
          exact AllReadyH.nil
        refine acons 5 rfl (fun K hK => ?_) ?_
        · go_simp
          refine hK.out _ _ trivial (fun _ => ?_)
          clear hK K
          (try go_frame)
          refine wpAnyH_ready (rs := [3, 9]) (by kernel_rfl) (by simp) ?_
          refine acons 3 rfl (fun K hK => ?_) ?_
          · go_simp
            refine (K1.out _).mono ?_; rintro e w2 ⟨rfl, hb⟩
            (try dsimp only)
            refine hK.out _ _ trivial (fun _ => ?_)
            clear hK K
            (try go_frame)
            have ck2 := (by first | exact CK.below ck hb | exact CK.below (CK.drew ck) hb : CK w b _ w2)
            clear ck hb c0 c1 c2 c3 c4 c5 c6 c7 g0 g1 g2 g3 g4 g5 g6 g7 hz
            have ck := ck2
            clear ck2
            obtain ⟨⟨c0, c1, c2, c3, c4, c5, c6, c7⟩, ⟨g0, g1, g2, g3, g4, g5, g6, g7⟩, hz⟩ := pcells ck.1
            refine wpAnyH_ready (rs := [7, 9]) (by kernel_rfl) (by simp) ?_
            refine acons 7 rfl (fun K hK => ?_) ?_
            · go_simp
              refine (K2.out _).mono ?_; rintro e w2 ⟨rfl, hb⟩
              (try dsimp only)
              refine hK.out _ _ trivial (fun _ => ?_)
              clear hK K
              (try go_frame)
              have ck2 := (by first | exact CK.below ck hb | exact CK.below (CK.drew ck) hb : CK w b _ w2)
              clear ck hb c0 c1 c2 c3 c4 c5 c6 c7 g0 g1 g2 g3 g4 g5 g6 g7 hz
              have ck := ck2
              clear ck2
              obtain ⟨⟨c0, c1, c2, c3, c4, c5, c6, c7⟩, ⟨g0, g1, g2, g3, g4, g5, g6, g7⟩, hz⟩ := pcells ck.1
              refine rconsQ 9 rfl (by kernel_rfl) (fun K hK => ?_)
              go_simp
              refine hK.out _ _ trivial (fun _ => ?_)
              clear hK K
              (try go_frame)
              refine tkyQ 12 (some 35) (v := ?_) rfl (by kernel_rfl) (by kernel_rfl) (by kernel_rfl) (fun _ _ _ h => h) ?_ hHeld ?_
              rotate_left
              focus (intro w hSw; go_simp; (try with_reducible rfl); done)
              go_frame
              refine rconsQ 11 rfl (by kernel_rfl) (fun K hK => ?_)
              go_simp
              refine (K3.out _).mono ?_; rintro e w2 ⟨rfl, hb⟩
              (try dsimp only)
              refine hK.out _ _ trivial (fun _ => ?_)
              clear hK K
              (try go_frame)
              have ck2 := (by first | exact CK.below ck hb | exact CK.below (CK.drew ck) hb : CK w b _ w2)
              clear ck hb c0 c1 c2 c3 c4 c5 c6 c7 g0 g1 g2 g3 g4 g5 g6 g7 hz
              have ck := ck2
              clear ck2
              obtain ⟨⟨c0, c1, c2, c3, c4, c5, c6, c7⟩, ⟨g0, g1, g2, g3, g4, g5, g6, g7⟩, hz⟩ := pcells ck.1
              refine rconsQ 13 rfl (by kernel_rfl) (fun K hK => ?_)
              go_simp
              refine hK.out _ _ trivial (fun _ => ?_)
              clear hK K
              (try go_frame)
              refine tkyQ 14 (some 36) (v := ?_) rfl (by kernel_rfl) (by kernel_rfl) (by kernel_rfl) (fun _ _ _ h => h) ?_ hHeld ?_
              rotate_left
              focus (intro w hSw; go_simp; (try with_reducible rfl); done)
              go_frame
              refine rconsQ 15 rfl (by kernel_rfl) (fun K hK => ?_)
              go_simp
              refine hK.out _ _ trivial (fun _ => ?_)
              clear hK K
              (try go_frame)
              refine tkyQ 16 (some 37) (v := ?_) rfl (by kernel_rfl) (by kernel_rfl) (by kernel_rfl) (fun _ _ _ h => h) ?_ hHeld ?_
              rotate_left
              focus (intro w hSw; go_simp; (try with_reducible rfl); done)
              go_frame
              refine rconsQ 17 rfl (by kernel_rfl) (fun K hK => ?_)
              go_simp
              refine hK.out _ _ trivial (fun _ => ?_)
              clear hK K
              (try go_frame)
              refine wpAnyH_done (by kernel_rfl) ?_ _
              go_wp2_with fail
              go_meet
              exact ((ck.set (i := 1) (.string us2) rfl).set (i := 4) (.string pa2) rfl).set (i := 5) (.string qu2) rfl
            refine acons 9 rfl (fun K hK => ?_) ?_
            · go_simp
              refine hK.out _ _ trivial (fun _ => ?_)
              clear hK K
              (try go_frame)
              refine tkyQ 12 (some 35) (v := ?_) rfl (by kernel_rfl) (by kernel_rfl) (by kernel_rfl) (fun _ _ _ h => h) ?_ hHeld ?_
              rotate_left
              focus (intro w hSw; go_simp; (try with_reducible rfl); done)
              go_frame
              refine rconsQ 7 rfl (by kernel_rfl) (fun K hK => ?_)
              go_simp
              refine (K2.out _).mono ?_; rintro e w2 ⟨rfl, hb⟩
              (try dsimp only)
              refine hK.out _ _ trivial (fun _ => ?_)
              clear hK K
              (try go_frame)
              have ck2 := (by first | exact CK.below ck hb | exact CK.below (CK.drew ck) hb : CK w b _ w2)
              clear ck hb c0 c1 c2 c3 c4 c5 c6 c7 g0 g1 g2 g3 g4 g5 g6 g7 hz
              have ck := ck2
              clear ck2
              obtain ⟨⟨c0, c1, c2, c3, c4, c5, c6, c7⟩, ⟨g0, g1, g2, g3, g4, g5, g6, g7⟩, hz⟩ := pcells ck.1
              refine rconsQ 11 rfl (by kernel_rfl) (fun K hK => ?_)
              go_simp
              refine (K3.out _).mono ?_; rintro e w2 ⟨rfl, hb⟩
              (try dsimp only)
              refine hK.out _ _ trivial (fun _ => ?_)
              clear hK K
              (try go_frame)
              have ck2 := (by first | exact CK.below ck hb | exact CK.below (CK.drew ck) hb : CK w b _ w2)
              clear ck hb c0 c1 c2 c3 c4 c5 c6 c7 g0 g1 g2 g3 g4 g5 g6 g7 hz
              have ck := ck2
              clear ck2
              obtain ⟨⟨c0, c1, c2, c3, c4, c5, c6, c7⟩, ⟨g0, g1, g2, g3, g4, g5, g6, g7⟩, hz⟩ := pcells ck.1
              refine rconsQ 13 rfl (by kernel_rfl) (fun K hK => ?_)
              go_simp
              refine hK.out _ _ trivial (fun _ => ?_)
              clear hK K
              (try go_frame)
              refine tkyQ 14 (some 36) (v := ?_) rfl (by kernel_rfl) (by kernel_rfl) (by kernel_rfl) (fun _ _ _ h => h) ?_ hHeld ?_
              rotate_left
              focus (intro w hSw; go_simp; (try with_reducible rfl); done)
              go_frame
              refine rconsQ 15 rfl (by kernel_rfl) (fun K hK => ?_)
              go_simp
              refine hK.out _ _ trivial (fun _ => ?_)
              clear hK K
              (try go_frame)
              refine tkyQ 16 (some 37) (v := ?_) rfl (by kernel_rfl) (by kernel_rfl) (by kernel_rfl) (fun _ _ _ h => h) ?_ hHeld ?_
              rotate_left
              focus (intro w hSw; go_simp; (try with_reducible rfl); done)
              go_frame
              refine rconsQ 17 rfl (by kernel_rfl) (fun K hK => ?_)
              go_simp
              refine hK.out _ _ trivial (fun _ => ?_)
              clear hK K
              (try go_frame)
              refine wpAnyH_done (by kernel_rfl) ?_ _
              go_wp2_with fail
              go_meet
              exact ((ck.set (i := 1) (.string us2) rfl).set (i := 4) (.string pa2) rfl).set (i := 5) (.string qu2) rfl
            exact AllReadyH.nil
          refine acons 9 rfl (fun K hK => ?_) ?_
          · go_simp
            refine hK.out _ _ trivial (fun _ => ?_)
            clear hK K
            (try go_frame)
            refine rconsQ 3 rfl (by kernel_rfl) (fun K hK => ?_)
            go_simp
            refine (K1.out _).mono ?_; rintro e w2 ⟨rfl, hb⟩
            (try dsimp only)
            refine hK.out _ _ trivial (fun _ => ?_)
            clear hK K
            (try go_frame)
            have ck2 := (by first | exact CK.below ck hb | exact CK.below (CK.drew ck) hb : CK w b _ w2)
            clear ck hb c0 c1 c2 c3 c4 c5 c6 c7 g0 g1 g2 g3 g4 g5 g6 g7 hz
            have ck := ck2
            clear ck2
            obtain ⟨⟨c0, c1, c2, c3, c4, c5, c6, c7⟩, ⟨g0, g1, g2, g3, g4, g5, g6, g7⟩, hz⟩ := pcells ck.1
            refine tkyQ 12 (some 35) (v := ?_) rfl (by kernel_rfl) (by kernel_rfl) (by kernel_rfl) (fun _ _ _ h => h) ?_ hHeld ?_
            rotate_left
            focus (intro w hSw; go_simp; (try with_reducible rfl); done)
            go_frame
            refine rconsQ 7 rfl (by kernel_rfl) (fun K hK => ?_)
            go_simp
            refine (K2.out _).mono ?_; rintro e w2 ⟨rfl, hb⟩
            (try dsimp only)
            refine hK.out _ _ trivial (fun _ => ?_)
            clear hK K
            (try go_frame)
            have ck2 := (by first | exact CK.below ck hb | exact CK.below (CK.drew ck) hb : CK w b _ w2)
            clear ck hb c0 c1 c2 c3 c4 c5 c6 c7 g0 g1 g2 g3 g4 g5 g6 g7 hz
            have ck := ck2
            clear ck2
            obtain ⟨⟨c0, c1, c2, c3, c4, c5, c6, c7⟩, ⟨g0, g1, g2, g3, g4, g5, g6, g7⟩, hz⟩ := pcells ck.1
            refine rconsQ 11 rfl (by kernel_rfl) (fun K hK => ?_)
            go_simp
            refine (K3.out _).mono ?_; rintro e w2 ⟨rfl, hb⟩
            (try dsimp only)
            refine hK.out _ _ trivial (fun _ => ?_)
            clear hK K
            (try go_frame)
            have ck2 := (by first | exact CK.below ck hb | exact CK.below (CK.drew ck) hb : CK w b _ w2)
            clear ck hb c0 c1 c2 c3 c4 c5 c6 c7 g0 g1 g2 g3 g4 g5 g6 g7 hz
            have ck := ck2
            clear ck2
            obtain ⟨⟨c0, c1, c2, c3, c4, c5, c6, c7⟩, ⟨g0, g1, g2, g3, g4, g5, g6, g7⟩, hz⟩ := pcells ck.1
            refine rconsQ 13 rfl (by kernel_rfl) (fun K hK => ?_)
            go_simp
            refine hK.out _ _ trivial (fun _ => ?_)
            clear hK K
            (try go_frame)
            refine tkyQ 14 (some 36) (v := ?_) rfl (by kernel_rfl) (by kernel_rfl) (by kernel_rfl) (fun _ _ _ h => h) ?_ hHeld ?_
            rotate_left
            focus (intro w hSw; go_simp; (try with_reducible rfl); done)
            go_frame
            refine rconsQ 15 rfl (by kernel_rfl) (fun K hK => ?_)
            go_simp
            refine hK.out _ _ trivial (fun _ => ?_)
            clear hK K
            (try go_frame)
            refine tkyQ 16 (some 37) (v := ?_) rfl (by kernel_rfl) (by kernel_rfl) (by kernel_rfl) (fun _ _ _ h => h) ?_ hHeld ?_
            rotate_left
            focus (intro w hSw; go_simp; (try with_reducible rfl); done)
            go_frame
            refine rconsQ 17 rfl (by kernel_rfl) (fun K hK => ?_)
            go_simp
            refine hK.out _ _ trivial (fun _ => ?_)
            clear hK K
            (try go_frame)
            refine wpAnyH_done (by kernel_rfl) ?_ _
            go_wp2_with fail
            go_meet
            exact ((ck.set (i := 1) (.string us2) rfl).set (i := 4) (.string pa2) rfl).set (i := 5) (.string qu2) rfl
          exact AllReadyH.nil
        refine acons 9 rfl (fun K hK => ?_) ?_
        · go_simp
          refine hK.out _ _ trivial (fun _ => ?_)
          clear hK K
          (try go_frame)
          refine wpAnyH_ready (rs := [3, 5]) (by kernel_rfl) (by simp) ?_
          refine acons 3 rfl (fun K hK => ?_) ?_
          · go_simp
            refine (K1.out _).mono ?_; rintro e w2 ⟨rfl, hb⟩
            (try dsimp only)
            refine hK.out _ _ trivial (fun _ => ?_)
            clear hK K
            (try go_frame)
            have ck2 := (by first | exact CK.below ck hb | exact CK.below (CK.drew ck) hb : CK w b _ w2)
            clear ck hb c0 c1 c2 c3 c4 c5 c6 c7 g0 g1 g2 g3 g4 g5 g6 g7 hz
            have ck := ck2
            clear ck2
            obtain ⟨⟨c0, c1, c2, c3, c4, c5, c6, c7⟩, ⟨g0, g1, g2, g3, g4, g5, g6, g7⟩, hz⟩ := pcells ck.1
            refine rconsQ 5 rfl (by kernel_rfl) (fun K hK => ?_)
            go_simp
            refine hK.out _ _ trivial (fun _ => ?_)
            clear hK K
            (try go_frame)
            refine tkyQ 12 (some 35) (v := ?_) rfl (by kernel_rfl) (by kernel_rfl) (by kernel_rfl) (fun _ _ _ h => h) ?_ hHeld ?_
            rotate_left
            focus (intro w hSw; go_simp; (try with_reducible rfl); done)
            go_frame
            refine rconsQ 7 rfl (by kernel_rfl) (fun K hK => ?_)
            go_simp
            refine (K2.out _).mono ?_; rintro e w2 ⟨rfl, hb⟩
            (try dsimp only)
            refine hK.out _ _ trivial (fun _ => ?_)
            clear hK K
            (try go_frame)
            have ck2 := (by first | exact CK.below ck hb | exact CK.below (CK.drew ck) hb : CK w b _ w2)
            clear ck hb c0 c1 c2 c3 c4 c5 c6 c7 g0 g1 g2 g3 g4 g5 g6 g7 hz
            have ck := ck2
            clear ck2
            obtain ⟨⟨c0, c1, c2, c3, c4, c5, c6, c7⟩, ⟨g0, g1, g2, g3, g4, g5, g6, g7⟩, hz⟩ := pcells ck.1
            refine rconsQ 11 rfl (by kernel_rfl) (fun K hK => ?_)
            go_simp
            refine (K3.out _).mono ?_; rintro e w2 ⟨rfl, hb⟩
            (try dsimp only)
            refine hK.out _ _ trivial (fun _ => ?_)
            clear hK K
            (try go_frame)
            have ck2 := (by first | exact CK.below ck hb | exact CK.below (CK.drew ck) hb : CK w b _ w2)
            clear ck hb c0 c1 c2 c3 c4 c5 c6 c7 g0 g1 g2 g3 g4 g5 g6 g7 hz
            have ck := ck2
            clear ck2
            obtain ⟨⟨c0, c1, c2, c3, c4, c5, c6, c7⟩, ⟨g0, g1, g2, g3, g4, g5, g6, g7⟩, hz⟩ := pcells ck.1
            refine rconsQ 13 rfl (by kernel_rfl) (fun K hK => ?_)
            go_simp
            refine hK.out _ _ trivial (fun _ => ?_)
            clear hK K
            (try go_frame)
            refine tkyQ 14 (some 36) (v := ?_) rfl (by kernel_rfl) (by kernel_rfl) (by kernel_rfl) (fun _ _ _ h => h) ?_ hHeld ?_
            rotate_left
            focus (intro w hSw; go_simp; (try with_reducible rfl); done)
            go_frame
            refine rconsQ 15 rfl (by kernel_rfl) (fun K hK => ?_)
            go_simp
            refine hK.out _ _ trivial (fun _ => ?_)
            clear hK K
            (try go_frame)
            refine tkyQ 16 (some 37) (v := ?_) rfl (by kernel_rfl) (by kernel_rfl) (by kernel_rfl) (fun _ _ _ h => h) ?_ hHeld ?_
            rotate_left
            focus (intro w hSw; go_simp; (try with_reducible rfl); done)
            go_frame
            refine rconsQ 17 rfl (by kernel_rfl) (fun K hK => ?_)
            go_simp
            refine hK.out _ _ trivial (fun _ => ?_)
            clear hK K
            (try go_frame)
            refine wpAnyH_done (by kernel_rfl) ?_ _
            go_wp2_with fail
            go_meet
            exact ((ck.set (i := 1) (.string us2) rfl).set (i := 4) (.string pa2) rfl).set (i := 5) (.string qu2) rfl
          refine acons 5 rfl (fun K hK => ?_) ?_
          · go_simp
            refine hK.out _ _ trivial (fun _ => ?_)
            clear hK K
            (try go_frame)
            refine rconsQ 3 rfl (by kernel_rfl) (fun K hK => ?_)
            go_simp
            refine (K1.out _).mono ?_; rintro e w2 ⟨rfl, hb⟩
            (try dsimp only)
            refine hK.out _ _ trivial (fun _ => ?_)
            clear hK K
            (try go_frame)
            have ck2 := (by first | exact CK.below ck hb | exact CK.below (CK.drew ck) hb : CK w b _ w2)
            clear ck hb c0 c1 c2 c3 c4 c5 c6 c7 g0 g1 g2 g3 g4 g5 g6 g7 hz
            have ck := ck2
            clear ck2
            obtain ⟨⟨c0, c1, c2, c3, c4, c5, c6, c7⟩, ⟨g0, g1, g2, g3, g4, g5, g6, g7⟩, hz⟩ := pcells ck.1
            refine tkyQ 12 (some 35) (v := ?_) rfl (by kernel_rfl) (by kernel_rfl) (by kernel_rfl) (fun _ _ _ h => h) ?_ hHeld ?_
            rotate_left
            focus (intro w hSw; go_simp; (try with_reducible rfl); done)
            go_frame
            refine rconsQ 7 rfl (by kernel_rfl) (fun K hK => ?_)
            go_simp
            refine (K2.out _).mono ?_; rintro e w2 ⟨rfl, hb⟩
            (try dsimp only)
            refine hK.out _ _ trivial (fun _ => ?_)
            clear hK K
            (try go_frame)
            have ck2 := (by first | exact CK.below ck hb | exact CK.below (CK.drew ck) hb : CK w b _ w2)
            clear ck hb c0 c1 c2 c3 c4 c5 c6 c7 g0 g1 g2 g3 g4 g5 g6 g7 hz
            have ck := ck2
            clear ck2
            obtain ⟨⟨c0, c1, c2, c3, c4, c5, c6, c7⟩, ⟨g0, g1, g2, g3, g4, g5, g6, g7⟩, hz⟩ := pcells ck.1
            refine rconsQ 11 rfl (by kernel_rfl) (fun K hK => ?_)
            go_simp
            refine (K3.out _).mono ?_; rintro e w2 ⟨rfl, hb⟩
            (try dsimp only)
            refine hK.out _ _ trivial (fun _ => ?_)
            clear hK K
            (try go_frame)
            have ck2 := (by first | exact CK.below ck hb | exact CK.below (CK.drew ck) hb : CK w b _ w2)
            clear ck hb c0 c1 c2 c3 c4 c5 c6 c7 g0 g1 g2 g3 g4 g5 g6 g7 hz
            have ck := ck2
            clear ck2
            obtain ⟨⟨c0, c1, c2, c3, c4, c5, c6, c7⟩, ⟨g0, g1, g2, g3, g4, g5, g6, g7⟩, hz⟩ := pcells ck.1
            refine rconsQ 13 rfl (by kernel_rfl) (fun K hK => ?_)
            go_simp
            refine hK.out _ _ trivial (fun _ => ?_)
            clear hK K
            (try go_frame)
            refine tkyQ 14 (some 36) (v := ?_) rfl (by kernel_rfl) (by kernel_rfl) (by kernel_rfl) (fun _ _ _ h => h) ?_ hHeld ?_
            rotate_left
            focus (intro w hSw; go_simp; (try with_reducible rfl); done)
            go_frame
            refine rconsQ 15 rfl (by kernel_rfl) (fun K hK => ?_)
            go_simp
            refine hK.out _ _ trivial (fun _ => ?_)
            clear hK K
            (try go_frame)
            refine tkyQ 16 (some 37) (v := ?_) rfl (by kernel_rfl) (by kernel_rfl) (by kernel_rfl) (fun _ _ _ h => h) ?_ hHeld ?_
            rotate_left
            focus (intro w hSw; go_simp; (try with_reducible rfl); done)
            go_frame
            refine rconsQ 17 rfl (by kernel_rfl) (fun K hK => ?_)
            go_simp
            refine hK.out _ _ trivial (fun _ => ?_)
            clear hK K
            (try go_frame)
            refine wpAnyH_done (by kernel_rfl) ?_ _
            go_wp2_with fail
            go_meet
            exact ((ck.set (i := 1) (.string us2) rfl).set (i := 4) (.string pa2) rfl).set (i := 5) (.string qu2) rfl
          exact AllReadyH.nil
        exact AllReadyH.nil
      refine acons 5 rfl (fun K hK => ?_) ?_
      · go_simp
        refine hK.out _ _ trivial (fun _ => ?_)
        clear hK K
        (try go_frame)
        refine wpAnyH_ready (rs := [1, 9]) (by kernel_rfl) (by simp) ?_
        refine acons 1 rfl (fun K hK => ?_) ?_
        · go_simp
          refine hK.out _ _ trivial (fun _ => ?_)
          clear hK K
          (try go_frame)
          refine wpAnyH_ready (rs := [3, 9]) (by kernel_rfl) (by simp) ?_
          refine acons 3 rfl (fun K hK => ?_) ?_
          · go_simp
            refine (K1.out _).mono ?_; rintro e w2 ⟨rfl, hb⟩
            (try dsimp only)
            refine hK.out _ _ trivial (fun _ => ?_)
            clear hK K
            (try go_frame)
            have ck2 := (by first | exact CK.below ck hb | exact CK.below (CK.drew ck) hb : CK w b _ w2)
            clear ck hb c0 c1 c2 c3 c4 c5 c6 c7 g0 g1 g2 g3 g4 g5 g6 g7 hz
            have ck := ck2
            clear ck2
            obtain ⟨⟨c0, c1, c2, c3, c4, c5, c6, c7⟩, ⟨g0, g1, g2, g3, g4, g5, g6, g7⟩, hz⟩ := pcells ck.1
            refine wpAnyH_ready (rs := [7, 9]) (by kernel_rfl) (by simp) ?_
            refine acons 7 rfl (fun K hK => ?_) ?_
            · go_simp
              refine (K2.out _).mono ?_; rintro e w2 ⟨rfl, hb⟩
              (try dsimp only)
              refine hK.out _ _ trivial (fun _ => ?_)
              clear hK K
              (try go_frame)
              have ck2 := (by first | exact CK.below ck hb | exact CK.below (CK.drew ck) hb : CK w b _ w2)
              clear ck hb c0 c1 c2 c3 c4 c5 c6 c7 g0 g1 g2 g3 g4 g5 g6 g7 hz
              have ck := ck2
              clear ck2
              obtain ⟨⟨c0, c1, c2, c3, c4, c5, c6, c7⟩, ⟨g0, g1, g2, g3, g4, g5, g6, g7⟩, hz⟩ := pcells ck.1
              refine rconsQ 9 rfl (by kernel_rfl) (fun K hK => ?_)
              go_simp
              refine hK.out _ _ trivial (fun _ => ?_)
              clear hK K
              (try go_frame)
              refine tkyQ 12 (some 35) (v := ?_) rfl (by kernel_rfl) (by kernel_rfl) (by kernel_rfl) (fun _ _ _ h => h) ?_ hHeld ?_
              rotate_left
              focus (intro w hSw; go_simp; (try with_reducible rfl); done)
              go_frame
              refine rconsQ 11 rfl (by kernel_rfl) (fun K hK => ?_)
              go_simp
              refine (K3.out _).mono ?_; rintro e w2 ⟨rfl, hb⟩
              (try dsimp only)
              refine hK.out _ _ trivial (fun _ => ?_)
              clear hK K
              (try go_frame)
              have ck2 := (by first | exact CK.below ck hb | exact CK.below (CK.drew ck) hb : CK w b _ w2)
              clear ck hb c0 c1 c2 c3 c4 c5 c6 c7 g0 g1 g2 g3 g4 g5 g6 g7 hz
              have ck := ck2
              clear ck2
              obtain ⟨⟨c0, c1, c2, c3, c4, c5, c6, c7⟩, ⟨g0, g1, g2, g3, g4, g5, g6, g7⟩, hz⟩ := pcells ck.1
              refine rconsQ 13 rfl (by kernel_rfl) (fun K hK => ?_)
              go_simp
              refine hK.out _ _ trivial (fun _ => ?_)
              clear hK K
              (try go_frame)
              refine tkyQ 14 (some 36) (v := ?_) rfl (by kernel_rfl) (by kernel_rfl) (by kernel_rfl) (fun _ _ _ h => h) ?_ hHeld ?_
              rotate_left
              focus (intro w hSw; go_simp; (try with_reducible rfl); done)
              go_frame
              refine rconsQ 15 rfl (by kernel_rfl) (fun K hK => ?_)
              go_simp
              refine hK.out _ _ trivial (fun _ => ?_)
              clear hK K
              (try go_frame)
              refine tkyQ 16 (some 37) (v := ?_) rfl (by kernel_rfl) (by kernel_rfl) (by kernel_rfl) (fun _ _ _ h => h) ?_ hHeld ?_
              rotate_left
              focus (intro w hSw; go_simp; (try with_reducible rfl); done)
              go_frame
              refine rconsQ 17 rfl (by kernel_rfl) (fun K hK => ?_)
              go_simp
              refine hK.out _ _ trivial (fun _ => ?_)
              clear hK K
              (try go_frame)
              refine wpAnyH_done (by kernel_rfl) ?_ _
              go_wp2_with fail
              go_meet
              exact ((ck.set (i := 1) (.string us2) rfl).set (i := 4) (.string pa2) rfl).set (i := 5) (.string qu2) rfl
            refine acons 9 rfl (fun K hK => ?_) ?_
            · go_simp
              refine hK.out _ _ trivial (fun _ => ?_)
              clear hK K
              (try go_frame)
              refine tkyQ 12 (some 35) (v := ?_) rfl (by kernel_rfl) (by kernel_rfl) (by kernel_rfl) (fun _ _ _ h => h) ?_ hHeld ?_
              rotate_left
              focus (intro w hSw; go_simp; (try with_reducible rfl); done)
              go_frame
              refine rconsQ 7 rfl (by kernel_rfl) (fun K hK => ?_)
              go_simp
              refine (K2.out _).mono ?_; rintro e w2 ⟨rfl, hb⟩
              (try dsimp only)
              refine hK.out _ _ trivial (fun _ => ?_)
              clear hK K
              (try go_frame)
              have ck2 := (by first | exact CK.below ck hb | exact CK.below (CK.drew ck) hb : CK w b _ w2)
              clear ck hb c0 c1 c2 c3 c4 c5 c6 c7 g0 g1 g2 g3 g4 g5 g6 g7 hz
              have ck := ck2
              clear ck2
              obtain ⟨⟨c0, c1, c2, c3, c4, c5, c6, c7⟩, ⟨g0, g1, g2, g3, g4, g5, g6, g7⟩, hz⟩ := pcells ck.1
              refine rconsQ 11 rfl (by kernel_rfl) (fun K hK => ?_)
              go_simp
              refine (K3.out _).mono ?_; rintro e w2 ⟨rfl, hb⟩
              (try dsimp only)
              refine hK.out _ _ trivial (fun _ => ?_)
              clear hK K
              (try go_frame)
              have ck2 := (by first | exact CK.below ck hb | exact CK.below (CK.drew ck) hb : CK w b _ w2)
              clear ck hb c0 c1 c2 c3 c4 c5 c6 c7 g0 g1 g2 g3 g4 g5 g6 g7 hz
              have ck := ck2
              clear ck2
              obtain ⟨⟨c0, c1, c2, c3, c4, c5, c6, c7⟩, ⟨g0, g1, g2, g3, g4, g5, g6, g7⟩, hz⟩ := pcells ck.1
              refine rconsQ 13 rfl (by kernel_rfl) (fun K hK => ?_)
              go_simp
              refine hK.out _ _ trivial (fun _ => ?_)
              clear hK K
              (try go_frame)
              refine tkyQ 14 (some 36) (v := ?_) rfl (by kernel_rfl) (by kernel_rfl) (by kernel_rfl) (fun _ _ _ h => h) ?_ hHeld ?_
              rotate_left
              focus (intro w hSw; go_simp; (try with_reducible rfl); done)
              go_frame
              refine rconsQ 15 rfl (by kernel_rfl) (fun K hK => ?_)
              go_simp
              refine hK.out _ _ trivial (fun _ => ?_)
              clear hK K
              (try go_frame)
              refine tkyQ 16 (some 37) (v := ?_) rfl (by kernel_rfl) (by kernel_rfl) (by kernel_rfl) (fun _ _ _ h => h) ?_ hHeld ?_
              rotate_left
              focus (intro w hSw; go_simp; (try with_reducible rfl); done)
              go_frame
              refine rconsQ 17 rfl (by kernel_rfl) (fun K hK => ?_)
              go_simp
              refine hK.out _ _ trivial (fun _ => ?_)
              clear hK K
              (try go_frame)
              refine wpAnyH_done (by kernel_rfl) ?_ _
              go_wp2_with fail
              go_meet
              exact ((ck.set (i := 1) (.string us2) rfl).set (i := 4) (.string pa2) rfl).set (i := 5) (.string qu2) rfl
            exact AllReadyH.nil
          refine acons 9 rfl (fun K hK => ?_) ?_
          · go_simp
            refine hK.out _ _ trivial (fun _ => ?_)
            clear hK K
            (try go_frame)
            refine rconsQ 3 rfl (by kernel_rfl) (fun K hK => ?_)
            go_simp
            refine (K1.out _).mono ?_; rintro e w2 ⟨rfl, hb⟩
            (try dsimp only)
            refine hK.out _ _ trivial (fun _ => ?_)
            clear hK K
            (try go_frame)
            have ck2 := (by first | exact CK.below ck hb | exact CK.below (CK.drew ck) hb : CK w b _ w2)
            clear ck hb c0 c1 c2 c3 c4 c5 c6 c7 g0 g1 g2 g3 g4 g5 g6 g7 hz
            have ck := ck2
            clear ck2
            obtain ⟨⟨c0, c1, c2, c3, c4, c5, c6, c7⟩, ⟨g0, g1, g2, g3, g4, g5, g6, g7⟩, hz⟩ := pcells ck.1
            refine tkyQ 12 (some 35) (v := ?_) rfl (by kernel_rfl) (by kernel_rfl) (by kernel_rfl) (fun _ _ _ h => h) ?_ hHeld ?_
            rotate_left
            focus (intro w hSw; go_simp; (try with_reducible rfl); done)
            go_frame
            refine rconsQ 7 rfl (by kernel_rfl) (fun K hK => ?_)
            go_simp
            refine (K2.out _).mono ?_; rintro e w2 ⟨rfl, hb⟩
            (try dsimp only)
            refine hK.out _ _ trivial (fun _ => ?_)
            clear hK K
            (try go_frame)
            have ck2 := (by first | exact CK.below ck hb | exact CK.below (CK.drew ck) hb : CK w b _ w2)
            clear ck hb c0 c1 c2 c3 c4 c5 c6 c7 g0 g1 g2 g3 g4 g5 g6 g7 hz
            have ck := ck2
            clear ck2
            obtain ⟨⟨c0, c1, c2, c3, c4, c5, c6, c7⟩, ⟨g0, g1, g2, g3, g4, g5, g6, g7⟩, hz⟩ := pcells ck.1
            refine rconsQ 11 rfl (by kernel_rfl) (fun K hK => ?_)
            go_simp
            refine (K3.out _).mono ?_; rintro e w2 ⟨rfl, hb⟩
            (try dsimp only)
            refine hK.out _ _ trivial (fun _ => ?_)
            clear hK K
            (try go_frame)
            have ck2 := (by first | exact CK.below ck hb | exact CK.below (CK.drew ck) hb : CK w b _ w2)
            clear ck hb c0 c1 c2 c3 c4 c5 c6 c7 g0 g1 g2 g3 g4 g5 g6 g7 hz
            have ck := ck2
            clear ck2
            obtain ⟨⟨c0, c1, c2, c3, c4, c5, c6, c7⟩, ⟨g0, g1, g2, g3, g4, g5, g6, g7⟩, hz⟩ := pcells ck.1
            refine rconsQ 13 rfl (by kernel_rfl) (fun K hK => ?_)
            go_simp
            refine hK.out _ _ trivial (fun _ => ?_)
            clear hK K
            (try go_frame)
            refine tkyQ 14 (some 36) (v := ?_) rfl (by kernel_rfl) (by kernel_rfl) (by kernel_rfl) (fun _ _ _ h => h) ?_ hHeld ?_
            rotate_left
            focus (intro w hSw; go_simp; (try with_reducible rfl); done)
            go_frame
            refine rconsQ 15 rfl (by kernel_rfl) (fun K hK => ?_)
            go_simp
            refine hK.out _ _ trivial (fun _ => ?_)
            clear hK K
            (try go_frame)
            refine tkyQ 16 (some 37) (v := ?_) rfl (by kernel_rfl) (by kernel_rfl) (by kernel_rfl) (fun _ _ _ h => h) ?_ hHeld ?_
            rotate_left
            focus (intro w hSw; go_simp; (try with_reducible rfl); done)
            go_frame
            refine rconsQ 17 rfl (by kernel_rfl) (fun K hK => ?_)
            go_simp
            refine hK.out _ _ trivial (fun _ => ?_)
            clear hK K
            (try go_frame)
            refine wpAnyH_done (by kernel_rfl) ?_ _
            go_wp2_with fail
            go_meet
            exact ((ck.set (i := 1) (.string us2) rfl).set (i := 4) (.string pa2) rfl).set (i := 5) (.string qu2) rfl
          exact AllReadyH.nil
        refine acons 9 rfl (fun K hK => ?_) ?_
        · go_simp
          refine hK.out _ _ trivial (fun _ => ?_)
          clear hK K
          (try go_frame)
          refine rconsQ 1 rfl (by kernel_rfl) (fun K hK => ?_)
          go_simp
          refine hK.out _ _ trivial (fun _ => ?_)
          clear hK K
          (try go_frame)
          refine rconsQ 3 rfl (by kernel_rfl) (fun K hK => ?_)
          go_simp
          refine (K1.out _).mono ?_; rintro e w2 ⟨rfl, hb⟩
          (try dsimp only)
          refine hK.out _ _ trivial (fun _ => ?_)
          clear hK K
          (try go_frame)
          have ck2 := (by first | exact CK.below ck hb | exact CK.below (CK.drew ck) hb : CK w b _ w2)
          clear ck hb c0 c1 c2 c3 c4 c5 c6 c7 g0 g1 g2 g3 g4 g5 g6 g7 hz
          have ck := ck2
          clear ck2
          obtain ⟨⟨c0, c1, c2, c3, c4, c5, c6, c7⟩, ⟨g0, g1, g2, g3, g4, g5, g6, g7⟩, hz⟩ := pcells ck.1
          refine tkyQ 12 (some 35) (v := ?_) rfl (by kernel_rfl) (by kernel_rfl) (by kernel_rfl) (fun _ _ _ h => h) ?_ hHeld ?_
          rotate_left
          focus (intro w hSw; go_simp; (try with_reducible rfl); done)
          go_frame
          refine rconsQ 7 rfl (by kernel_rfl) (fun K hK => ?_)
          go_simp
          refine (K2.out _).mono ?_; rintro e w2 ⟨rfl, hb⟩
          (try dsimp only)
          refine hK.out _ _ trivial (fun _ => ?_)
          clear hK K
          (try go_frame)
          have ck2 := (by first | exact CK.below ck hb | exact CK.below (CK.drew ck) hb : CK w b _ w2)
          clear ck hb c0 c1 c2 c3 c4 c5 c6 c7 g0 g1 g2 g3 g4 g5 g6 g7 hz
          have ck := ck2
          clear ck2
          obtain ⟨⟨c0, c1, c2, c3, c4, c5, c6, c7⟩, ⟨g0, g1, g2, g3, g4, g5, g6, g7⟩, hz⟩ := pcells ck.1
          refine rconsQ 11 rfl (by kernel_rfl) (fun K hK => ?_)
          go_simp
          refine (K3.out _).mono ?_; rintro e w2 ⟨rfl, hb⟩
          (try dsimp only)
          refine hK.out _ _ trivial (fun _ => ?_)
          clear hK K
          (try go_frame)
          have ck2 := (by first | exact CK.below ck hb | exact CK.below (CK.drew ck) hb : CK w b _ w2)
          clear ck hb c0 c1 c2 c3 c4 c5 c6 c7 g0 g1 g2 g3 g4 g5 g6 g7 hz
          have ck := ck2
          clear ck2
          obtain ⟨⟨c0, c1, c2, c3, c4, c5, c6, c7⟩, ⟨g0, g1, g2, g3, g4, g5, g6, g7⟩, hz⟩ := pcells ck.1
          refine rconsQ 13 rfl (by kernel_rfl) (fun K hK => ?_)
          go_simp
          refine hK.out _ _ trivial (fun _ => ?_)
          clear hK K
          (try go_frame)
          refine tkyQ 14 (some 36) (v := ?_) rfl (by kernel_rfl) (by kernel_rfl) (by kernel_rfl) (fun _ _ _ h => h) ?_ hHeld ?_
          rotate_left
          focus (intro w hSw; go_simp; (try with_reducible rfl); done)
          go_frame
          refine rconsQ 15 rfl (by kernel_rfl) (fun K hK => ?_)
          go_simp
          refine hK.out _ _ trivial (fun _ => ?_)
          clear hK K
          (try go_frame)
          refine tkyQ 16 (some 37) (v := ?_) rfl (by kernel_rfl) (by kernel_rfl) (by kernel_rfl) (fun _ _ _ h => h) ?_ hHeld ?_
          rotate_left
          focus (intro w hSw; go_simp; (try with_reducible rfl); done)
          go_frame
          refine rconsQ 17 rfl (by kernel_rfl) (fun K hK => ?_)
          go_simp
          refine hK.out _ _ trivial (fun _ => ?_)
          clear hK K
          (try go_frame)
          refine wpAnyH_done (by kernel_rfl) ?_ _
          go_wp2_with fail
          go_meet
          exact ((ck.set (i := 1) (.string us2) rfl).set (i := 4) (.string pa2) rfl).set (i := 5) (.string qu2) rfl
        exact AllReadyH.nil
      refine acons 9 rfl (fun K hK => ?_) ?_
      · go_simp
        refine hK.out _ _ trivial (fun _ => ?_)
        clear hK K
        (try go_frame)
        refine wpAnyH_ready (rs := [1, 5]) (by kernel_rfl) (by simp) ?_
        refine acons 1 rfl (fun K hK => ?_) ?_
        · go_simp
          refine hK.out _ _ trivial (fun _ => ?_)
          clear hK K
          (try go_frame)
          refine wpAnyH_ready (rs := [3, 5]) (by kernel_rfl) (by simp) ?_
          refine acons 3 rfl (fun K hK => ?_) ?_
          · go_simp
            refine (K1.out _).mono ?_; rintro e w2 ⟨rfl, hb⟩
            (try dsimp only)
            refine hK.out _ _ trivial (fun _ => ?_)
            clear hK K
            (try go_frame)
            have ck2 := (by first | exact CK.below ck hb | exact CK.below (CK.drew ck) hb : CK w b _ w2)
            clear ck hb c0 c1 c2 c3 c4 c5 c6 c7 g0 g1 g2 g3 g4 g5 g6 g7 hz
            have ck := ck2
            clear ck2
            obtain ⟨⟨c0, c1, c2, c3, c4, c5, c6, c7⟩, ⟨g0, g1, g2, g3, g4, g5, g6, g7⟩, hz⟩ := pcells ck.1
            refine rconsQ 5 rfl (by kernel_rfl) (fun K hK => ?_)
            go_simp
            refine hK.out _ _ trivial (fun _ => ?_)
            clear hK K
            (try go_frame)
            refine tkyQ 12 (some 35) (v := ?_) rfl (by kernel_rfl) (by kernel_rfl) (by kernel_rfl) (fun _ _ _ h => h) ?_ hHeld ?_
            rotate_left
            focus (intro w hSw; go_simp; (try with_reducible rfl); done)
            go_frame
            refine rconsQ 7 rfl (by kernel_rfl) (fun K hK => ?_)
            go_simp
            refine (K2.out _).mono ?_; rintro e w2 ⟨rfl, hb⟩
            (try dsimp only)
            refine hK.out _ _ trivial (fun _ => ?_)
            clear hK K
            (try go_frame)
            have ck2 := (by first | exact CK.below ck hb | exact CK.below (CK.drew ck) hb : CK w b _ w2)
            clear ck hb c0 c1 c2 c3 c4 c5 c6 c7 g0 g1 g2 g3 g4 g5 g6 g7 hz
            have ck := ck2
            clear ck2
            obtain ⟨⟨c0, c1, c2, c3, c4, c5, c6, c7⟩, ⟨g0, g1, g2, g3, g4, g5, g6, g7⟩, hz⟩ := pcells ck.1
            refine rconsQ 11 rfl (by kernel_rfl) (fun K hK => ?_)
            go_simp
            refine (K3.out _).mono ?_; rintro e w2 ⟨rfl, hb⟩
            (try dsimp only)
            refine hK.out _ _ trivial (fun _ => ?_)
            clear hK K
            (try go_frame)
            have ck2 := (by first | exact CK.below ck hb | exact CK.below (CK.drew ck) hb : CK w b _ w2)
            clear ck hb c0 c1 c2 c3 c4 c5 c6 c7 g0 g1 g2 g3 g4 g5 g6 g7 hz
            have ck := ck2
            clear ck2
            obtain ⟨⟨c0, c1, c2, c3, c4, c5, c6, c7⟩, ⟨g0, g1, g2, g3, g4, g5, g6, g7⟩, hz⟩ := pcells ck.1
            refine rconsQ 13 rfl (by kernel_rfl) (fun K hK => ?_)
            go_simp
            refine hK.out _ _ trivial (fun _ => ?_)
            clear hK K
            (try go_frame)
            refine tkyQ 14 (some 36) (v := ?_) rfl (by kernel_rfl) (by kernel_rfl) (by kernel_rfl) (fun _ _ _ h => h) ?_ hHeld ?_
            rotate_left
            focus (intro w hSw; go_simp; (try with_reducible rfl); done)
            go_frame
            refine rconsQ 15 rfl (by kernel_rfl) (fun K hK => ?_)
            go_simp
            refine hK.out _ _ trivial (fun _ => ?_)
            clear hK K
            (try go_frame)
            refine tkyQ 16 (some 37) (v := ?_) rfl (by kernel_rfl) (by kernel_rfl) (by kernel_rfl) (fun _ _ _ h => h) ?_ hHeld ?_
            rotate_left
            focus (intro w hSw; go_simp; (try with_reducible rfl); done)
            go_frame
            refine rconsQ 17 rfl (by kernel_rfl) (fun K hK => ?_)
            go_simp
            refine hK.out _ _ trivial (fun _ => ?_)
            clear hK K
            (try go_frame)
            refine wpAnyH_done (by kernel_rfl) ?_ _
            go_wp2_with fail
            go_meet
            exact ((ck.set (i := 1) (.string us2) rfl).set (i := 4) (.string pa2) rfl).set (i := 5) (.string qu2) rfl
          refine acons 5 rfl (fun K hK => ?_) ?_
          · go_simp
            refine hK.out _ _ trivial (fun _ => ?_)
            clear hK K
            (try go_frame)
            refine rconsQ 3 rfl (by kernel_rfl) (fun K hK => ?_)
            go_simp
            refine (K1.out _).mono ?_; rintro e w2 ⟨rfl, hb⟩
            (try dsimp only)
            refine hK.out _ _ trivial (fun _ => ?_)
            clear hK K
            (try go_frame)
            have ck2 := (by first | exact CK.below ck hb | exact CK.below (CK.drew ck) hb : CK w b _ w2)
            clear ck hb c0 c1 c2 c3 c4 c5 c6 c7 g0 g1 g2 g3 g4 g5 g6 g7 hz
            have ck := ck2
            clear ck2
            obtain ⟨⟨c0, c1, c2, c3, c4, c5, c6, c7⟩, ⟨g0, g1, g2, g3, g4, g5, g6, g7⟩, hz⟩ := pcells ck.1
            refine tkyQ 12 (some 35) (v := ?_) rfl (by kernel_rfl) (by kernel_rfl) (by kernel_rfl) (fun _ _ _ h => h) ?_ hHeld ?_
            rotate_left
            focus (intro w hSw; go_simp; (try with_reducible rfl); done)
            go_frame
            refine rconsQ 7 rfl (by kernel_rfl) (fun K hK => ?_)
            go_simp
            refine (K2.out _).mono ?_; rintro e w2 ⟨rfl, hb⟩
            (try dsimp only)
            refine hK.out _ _ trivial (fun _ => ?_)
            clear hK K
            (try go_frame)
            have ck2 := (by first | exact CK.below ck hb | exact CK.below (CK.drew ck) hb : CK w b _ w2)
            clear ck hb c0 c1 c2 c3 c4 c5 c6 c7 g0 g1 g2 g3 g4 g5 g6 g7 hz
            have ck := ck2
            clear ck2
            obtain ⟨⟨c0, c1, c2, c3, c4, c5, c6, c7⟩, ⟨g0, g1, g2, g3, g4, g5, g6, g7⟩, hz⟩ := pcells ck.1
            refine rconsQ 11 rfl (by kernel_rfl) (fun K hK => ?_)
            go_simp
            refine (K3.out _).mono ?_; rintro e w2 ⟨rfl, hb⟩
            (try dsimp only)
            refine hK.out _ _ trivial (fun _ => ?_)
            clear hK K
            (try go_frame)
            have ck2 := (by first | exact CK.below ck hb | exact CK.below (CK.drew ck) hb : CK w b _ w2)
            clear ck hb c0 c1 c2 c3 c4 c5 c6 c7 g0 g1 g2 g3 g4 g5 g6 g7 hz
            have ck := ck2
            clear ck2
            obtain ⟨⟨c0, c1, c2, c3, c4, c5, c6, c7⟩, ⟨g0, g1, g2, g3, g4, g5, g6, g7⟩, hz⟩ := pcells ck.1
            refine rconsQ 13 rfl (by kernel_rfl) (fun K hK => ?_)
            go_simp
            refine hK.out _ _ trivial (fun _ => ?_)
            clear hK K
            (try go_frame)
            refine tkyQ 14 (some 36) (v := ?_) rfl (by kernel_rfl) (by kernel_rfl) (by kernel_rfl) (fun _ _ _ h => h) ?_ hHeld ?_
            rotate_left
            focus (intro w hSw; go_simp; (try with_reducible rfl); done)
            go_frame
            refine rconsQ 15 rfl (by kernel_rfl) (fun K hK => ?_)
            go_simp
            refine hK.out _ _ trivial (fun _ => ?_)
            clear hK K
            (try go_frame)
            refine tkyQ 16 (some 37) (v := ?_) rfl (by kernel_rfl) (by kernel_rfl) (by kernel_rfl) (fun _ _ _ h => h) ?_ hHeld ?_
            rotate_left
            focus (intro w hSw; go_simp; (try with_reducible rfl); done)
            go_frame
            refine rconsQ 17 rfl (by kernel_rfl) (fun K hK => ?_)
            go_simp
            refine hK.out _ _ trivial (fun _ => ?_)
            clear hK K
            (try go_frame)
            refine wpAnyH_done (by kernel_rfl) ?_ _
            go_wp2_with fail
            go_meet
            exact ((ck.set (i := 1) (.string us2) rfl).set (i := 4) (.string pa2) rfl).set (i := 5) (.string qu2) rfl
          exact AllReadyH.nil
        refine acons 5 rfl (fun K hK => ?_) ?_
        · go_simp
          refine hK.out _ _ trivial (fun _ => ?_)
          clear hK K
          (try go_frame)
          refine rconsQ 1 rfl (by kernel_rfl) (fun K hK => ?_)
          go_simp
          refine hK.out _ _ trivial (fun _ => ?_)
          clear hK K
          (try go_frame)
          refine rconsQ 3 rfl (by kernel_rfl) (fun K hK => ?_)
          go_simp
          refine (K1.out _).mono ?_; rintro e w2 ⟨rfl, hb⟩
          (try dsimp only)
          refine hK.out _ _ trivial (fun _ => ?_)
          clear hK K
          (try go_frame)
          have ck2 := (by first | exact CK.below ck hb | exact CK.below (CK.drew ck) hb : CK w b _ w2)
          clear ck hb c0 c1 c2 c3 c4 c5 c6 c7 g0 g1 g2 g3 g4 g5 g6 g7 hz
          have ck := ck2
          clear ck2
          obtain ⟨⟨c0, c1, c2, c3, c4, c5, c6, c7⟩, ⟨g0, g1, g2, g3, g4, g5, g6, g7⟩, hz⟩ := pcells ck.1
          refine tkyQ 12 (some 35) (v := ?_) rfl (by kernel_rfl) (by kernel_rfl) (by kernel_rfl) (fun _ _ _ h => h) ?_ hHeld ?_
          rotate_left
          focus (intro w hSw; go_simp; (try with_reducible rfl); done)
          go_frame
          refine rconsQ 7 rfl (by kernel_rfl) (fun K hK => ?_)
          go_simp
          refine (K2.out _).mono ?_; rintro e w2 ⟨rfl, hb⟩
          (try dsimp only)
          refine hK.out _ _ trivial (fun _ => ?_)
          clear hK K
          (try go_frame)
          have ck2 := (by first | exact CK.below ck hb | exact CK.below (CK.drew ck) hb : CK w b _ w2)
          clear ck hb c0 c1 c2 c3 c4 c5 c6 c7 g0 g1 g2 g3 g4 g5 g6 g7 hz
          have ck := ck2
          clear ck2
          obtain ⟨⟨c0, c1, c2, c3, c4, c5, c6, c7⟩, ⟨g0, g1, g2, g3, g4, g5, g6, g7⟩, hz⟩ := pcells ck.1
          refine rconsQ 11 rfl (by kernel_rfl) (fun K hK => ?_)
          go_simp
          refine (K3.out _).mono ?_; rintro e w2 ⟨rfl, hb⟩
          (try dsimp only)
          refine hK.out _ _ trivial (fun _ => ?_)
          clear hK K
          (try go_frame)
          have ck2 := (by first | exact CK.below ck hb | exact CK.below (CK.drew ck) hb : CK w b _ w2)
          clear ck hb c0 c1 c2 c3 c4 c5 c6 c7 g0 g1 g2 g3 g4 g5 g6 g7 hz
          have ck := ck2
          clear ck2
          obtain ⟨⟨c0, c1, c2, c3, c4, c5, c6, c7⟩, ⟨g0, g1, g2, g3, g4, g5, g6, g7⟩, hz⟩ := pcells ck.1
          refine rconsQ 13 rfl (by kernel_rfl) (fun K hK => ?_)
          go_simp
          refine hK.out _ _ trivial (fun _ => ?_)
          clear hK K
          (try go_frame)
          refine tkyQ 14 (some 36) (v := ?_) rfl (by kernel_rfl) (by kernel_rfl) (by kernel_rfl) (fun _ _ _ h => h) ?_ hHeld ?_
          rotate_left
          focus (intro w hSw; go_simp; (try with_reducible rfl); done)
          go_frame
          refine rconsQ 15 rfl (by kernel_rfl) (fun K hK => ?_)
          go_simp
          refine hK.out _ _ trivial (fun _ => ?_)
          clear hK K
          (try go_frame)
          refine tkyQ 16 (some 37) (v := ?_) rfl (by kernel_rfl) (by kernel_rfl) (by kernel_rfl) (fun _ _ _ h => h) ?_ hHeld ?_
          rotate_left
          focus (intro w hSw; go_simp; (try with_reducible rfl); done)
          go_frame
          refine rconsQ 17 rfl (by kernel_rfl) (fun K hK => ?_)
          go_simp
          refine hK.out _ _ trivial (fun _ => ?_)
          clear hK K
          (try go_frame)
          refine wpAnyH_done (by kernel_rfl) ?_ _
          go_wp2_with fail
          go_meet
          exact ((ck.set (i := 1) (.string us2) rfl).set (i := 4) (.string pa2) rfl).set (i := 5) (.string qu2) rfl
        exact AllReadyH.nil
      exact AllReadyH.nil
    case rest =>
      clear ck c0 c1 c2 c3 c4 c5 c6 c7 g0 g1 g2 g3 g4 g5 g6 g7 hz
      rename World => wd
      have ck := hcut
      clear hcut
      obtain ⟨⟨c0, c1, c2, c3, c4, c5, c6, c7⟩, ⟨g0, g1, g2, g3, g4, g5, g6, g7⟩, hz⟩ := pcells ck.1
      go_wp2_with fail
      refine (HT.out _).mono ?_; rintro e w9 ⟨rfl, hb⟩
      have hfin := (ck.below hb).2.2.2
      go_wp2_with fail
      go_ret2
      exact ⟨rfl, hfin⟩
end Go.Proofs.YtjhgiojmlkeccaaGreatDoor
namespace Go.Proofs.YtjhgiojmlkeccaaGreatDoor
open Go.RowKit
theorem hex_ascii (c : UInt8) (h : isHex c = true) : c.toNat < 128 := by
  have g := all_bytes (f := fun c => (!isHex c || decide (c.toNat < 128))) (g := fun _ => true) (by decide +kernel) c
  simp only [h, Bool.not_true, Bool.false_or, decide_eq_true_eq] at g
  exact g
theorem made_ascii (p : UInt8 → Bool) (hp : ∀ c, p c = true → c.toNat < 128) : ∀ l : List UInt8, madeB p l = true → ∀ c ∈ l, c.toNat < 128
  | [], _, c, hc => by cases hc
  | [a], h, c, hc => by
    rw [List.mem_singleton] at hc
    rw [hc]; exact hp a h
  | [a, b], h, c, hc => by
    simp only [madeB, Bool.and_eq_true] at h
    rcases List.mem_cons.1 hc with q | q
    · rw [q]; exact hp a h.1
    · rw [List.mem_singleton] at q; rw [q]; exact hp b h.2
  | a :: b :: d :: r, h, c, hc => by
    rw [madeB] at h
    cases he : (a == 37 && isHex b && isHex d) with
    | true =>
      rw [he] at h
      simp only [if_true] at h
      simp only [Bool.and_eq_true, beq_iff_eq] at he
      rcases List.mem_cons.1 hc with q | q
      · rw [q, he.1.1]; decide
      · rcases List.mem_cons.1 q with q | q
        · rw [q]; exact hex_ascii b he.1.2
        · rcases List.mem_cons.1 q with q | q
          · rw [q]; exact hex_ascii d he.2
          · exact made_ascii p hp r h c q
    | false =>
      rw [he] at h
      simp only [Bool.false_eq_true, if_false, Bool.and_eq_true] at h
      rcases List.mem_cons.1 hc with q | q
      · rw [q]; exact hp a h.1
      · exact made_ascii p hp (b :: d :: r) h.2 c q
theorem mayB_ascii (marks : List UInt8) (hm : ∀ c ∈ marks, c.toNat < 128) (c : UInt8) (h : mayBQ marks c = true) : c.toNat < 128 := by
  unfold mayBQ at h
  simp only [Bool.or_eq_true] at h
  rcases h with (h | h) | h
  · exact free_ascii c h
  · have : ∀ c ∈ delims, c.toNat < 128 := by decide
    exact this c (List.contains_iff_mem.1 h)
  · exact hm c (List.contains_iff_mem.1 h)
theorem okS_ascii (c : UInt8) (h : okS c = true) : c.toNat < 128 := by
  have g := all_bytes (f := fun c => (!okS c || decide (c.toNat < 128))) (g := fun _ => true) (by decide +kernel) c
  simp only [h, Bool.not_true, Bool.false_or, decide_eq_true_eq] at g
  exact g
theorem may_parts {sc us ho po pa qu : List UInt8} {hu hq : Bool} (h : mayL sc us ho po pa qu hu hq = true) :
    (∀ c ∈ sc, c.toNat < 128) ∧ (∀ c ∈ us, c.toNat < 128) ∧ (∀ c ∈ ho, c.toNat < 128) ∧ (∀ c ∈ pa, c.toNat < 128) ∧ (∀ c ∈ qu, c.toNat < 128) := by
  unfold mayL oneL at h
  simp only [Bool.and_eq_true] at h
  obtain ⟨⟨⟨⟨⟨⟨⟨h1, h2⟩, h3⟩, h4⟩, h5⟩, h6⟩, _⟩, _⟩ := h
  refine ⟨?_, made_ascii _ (mayB_ascii [58] (by decide)) us h2, made_ascii _ (mayB_ascii [] (by decide)) ho h3, made_ascii _ (mayB_ascii [58, 64, 47] (by decide)) pa h5, made_ascii _ (mayB_ascii [58, 64, 47, 63] (by decide)) qu h6⟩
  rw [scheme_parts] at h1
  simp only [Bool.and_eq_true] at h1
  exact made_ascii _ okS_ascii sc h1.2
theorem outE_le (tf : UInt8 → UInt8) (b c : UInt8) : (outE tf b c).length ≤ 3 := by
  unfold outE; split <;> simp
theorem plain_le (tf : UInt8 → UInt8) : ∀ l : List UInt8, (plainL tf l).length ≤ l.length
  | [] => Nat.le_refl _
  | [a] => Nat.le_refl _
  | [a, b] => Nat.le_refl _
  | a :: b :: c :: r => by
    rw [plainL]
    split
    · have := plain_le tf r
      have := outE_le tf b c
      rw [List.length_append]
      simp only [List.length_cons]
      omega
    · have := plain_le tf (b :: c :: r)
      simp only [List.length_cons] at *
      omega
def canonL (l : List UInt8) : List UInt8 := tellL (plainL lowB (scP l)) (plainL id (usP l)) (plainL lowB (hoP l)) (poP l) (plainL id (paP l)) (plainL id (quP l)) (huP l) (hqP l)
def canonV (l : List UInt8) : Value := if parseOkQ l then .tuple #[.string (bs (canonL l)), .int .i64 0] else .tuple #[.string ⟨#[]⟩, .int .i64 150]
theorem canon_any (s : ByteArray) (hs : s.size ≤ 100000) (w : World) :
    Calls Tryz.prog 39 #[.string s] w fun e w' => e = .returned (canonV s.data.toList) ∧ Below w.heap.size w w' := by
  obtain ⟨l, hl⟩ : ∃ l, s.data.toList = l := ⟨_, rfl⟩
  obtain rfl : s = bs l := bs_of s l hl
  rw [bs_list]
  have hll : l.length ≤ 100000 := by rw [← bs_size]; exact hs
  have hp := parts_le l
  have H1 : Does 59 #[.string (bs l)] (parseV l) := fun w => parse_any (bs l) hs w
  cases hok : parseOkQ l with
  | false =>
    have hv : canonV l = .tuple #[.string ⟨#[]⟩, .int .i64 150] := by unfold canonV; rw [hok]; rfl
    have hv2 : parseV l = .tuple #[zeroA, .int .i64 150] := by unfold parseV; rw [hok]; rfl
    rw [hv]
    rw [hv2] at H1
    exact canon_no (bs l) (Lib.hid H1) w
  | true =>
    have hv : canonV l = .tuple #[.string (bs (canonL l)), .int .i64 0] := by unfold canonV; rw [hok]; rfl
    have hv2 : parseV l = .tuple #[addrV (scP l) (usP l) (hoP l) (poP l) (paP l) (quP l) (huP l) (hqP l), .int .i64 0] := by unfold parseV; rw [hok]; rfl
    rw [hv]
    rw [hv2] at H1
    have hm : mayP l = true := by unfold parseOkQ at hok; simp only [Bool.and_eq_true] at hok; exact hok.2
    obtain ⟨q1, q2, q3, q4, q5⟩ := may_parts hm
    have e1 := plain_le lowB (scP l)
    have e2 := plain_le id (usP l)
    have e3 := plain_le lowB (hoP l)
    have e4 := plain_le id (paP l)
    have e5 := plain_le id (quP l)
    exact canon_go (bs l) (bs (scP l)) (bs (usP l)) (bs (hoP l)) (bs (poP l)) (bs (paP l)) (bs (quP l)) (bs (plainL lowB (scP l))) (bs (plainL id (usP l))) (bs (plainL lowB (hoP l))) (bs (plainL id (paP l))) (bs (plainL id (quP l))) (bs (canonL l)) (huP l) (hqP l) (Lib.hid H1)
      (Lib.hid fun V => plain_small (bs (scP l)) (by rw [bs_size]; omega) (Lib.hid q1) V) (Lib.hid fun V => plain_small (bs (hoP l)) (by rw [bs_size]; omega) (Lib.hid q3) V)
      (Lib.hid fun V => plain_kept (bs (usP l)) (by rw [bs_size]; omega) (Lib.hid q2) V) (Lib.hid fun V => plain_kept (bs (paP l)) (by rw [bs_size]; omega) (Lib.hid q4) V) (Lib.hid fun V => plain_kept (bs (quP l)) (by rw [bs_size]; omega) (Lib.hid q5) V)
      (Lib.hid fun V => tell_any (bs _) (bs _) (bs _) (bs (poP l)) (bs _) (bs _) (huP l) (hqP l) (by rw [bs_size]; omega) (by rw [bs_size]; omega) (by rw [bs_size]; omega) (by rw [bs_size]; omega) (by rw [bs_size]; omega) (by rw [bs_size]; omega) V) w
end Go.Proofs.YtjhgiojmlkeccaaGreatDoor
namespace Go.Proofs.YtjhgiojmlkeccaaGreatDoor
open Go.RowKit
theorem made_mem (p : UInt8 → Bool) : ∀ l : List UInt8, madeB p l = true → ∀ c ∈ l, (p c || c == 37 || isHex c) = true
  | [], _, c, hc => by cases hc
  | [a], h, c, hc => by
    rw [List.mem_singleton] at hc
    rw [hc, show p a = true from h]; rfl
  | [a, b], h, c, hc => by
    simp only [madeB, Bool.and_eq_true] at h
    rcases List.mem_cons.1 hc with q | q
    · rw [q, h.1]; rfl
    · rw [List.mem_singleton] at q; rw [q, h.2]; rfl
  | a :: b :: d :: r, h, c, hc => by
    rw [madeB] at h
    cases he : (a == 37 && isHex b && isHex d) with
    | true =>
      rw [he] at h
      simp only [if_true] at h
      simp only [Bool.and_eq_true] at he
      rcases List.mem_cons.1 hc with q | q
      · rw [q, he.1.1]; simp
      · rcases List.mem_cons.1 q with q | q
        · rw [q, he.1.2]; simp
        · rcases List.mem_cons.1 q with q | q
          · rw [q, he.2]; simp
          · exact made_mem p r h c q
    | false =>
      rw [he] at h
      simp only [Bool.false_eq_true, if_false, Bool.and_eq_true] at h
      rcases List.mem_cons.1 hc with q | q
      · rw [q, h.1]; rfl
      · exact made_mem p (b :: d :: r) h.2 c q
/-- A byte that no part of a kind holds. -/
theorem not_in (p : UInt8 → Bool) (x : UInt8) (hx : (p x || x == 37 || isHex x) = false) (l : List UInt8) (h : madeB p l = true) : l.contains x = false := by
  cases q : l.contains x
  · rfl
  · have := made_mem p l h x (List.contains_iff_mem.1 q)
    rw [hx] at this; cases this
theorem ahead_app (c : UInt8) : ∀ (l r : List UInt8), l.contains c = false → ahead c (l ++ c :: r) = l ∧ behind c (l ++ c :: r) = r ∧ (l ++ c :: r).contains c = true
  | [], r, _ => by simp [ahead, behind]
  | a :: l, r, h => by
    have h1 : (a == c) = false := by
      cases q : (a == c)
      · rfl
      · rw [List.contains_cons, show (c == a) = true by rw [beq_iff_eq] at q ⊢; exact q.symm] at h; cases h
    have h2 : l.contains c = false := by
      cases q : l.contains c
      · rfl
      · rw [List.contains_cons, q, Bool.or_true] at h; cases h
    obtain ⟨i1, i2, i3⟩ := ahead_app c l r h2
    have hne : (a != c) = true := by rw [bne, h1]; rfl
    refine ⟨?_, ?_, ?_⟩
    · simp only [ahead, List.cons_append, List.takeWhile_cons, hne, if_true] at *
      rw [i1]
    · simp only [behind, List.cons_append, List.dropWhile_cons, hne, if_true] at *
      exact i2
    · rw [List.cons_append, List.contains_cons, i3, Bool.or_true]
theorem noAny_app (l r : List UInt8) (hl : ∀ c ∈ l, ([47, 63] : List UInt8).contains c = false) : Lib.NoAny (l ++ r) [47, 63] l.length := by
  intro j b hj hb
  rw [List.getElem?_append_left hj] at hb
  exact hl b (List.mem_of_getElem? hb)
theorem split_app (l r : List UInt8) (hl : ∀ c ∈ l, ([47, 63] : List UInt8).contains c = false) (hr : r = [] ∨ ∃ x r', r = x :: r' ∧ ([47, 63] : List UInt8).contains x = true) : headL (l ++ r) = l ∧ restL (l ++ r) = r := by
  have hn := noAny_app l r hl
  rcases hr with rfl | ⟨x, r', rfl, hx⟩
  · have : ixL (l ++ []) = -1 := by
      unfold ixL
      refine Lib.indexAny_none ?_
      rw [List.append_nil] at hn ⊢
      exact hn
    unfold headL restL
    rw [this]
    exact ⟨List.append_nil l, rfl⟩
  · have : ixL (l ++ x :: r') = l.length := by
      unfold ixL
      exact Lib.indexAny_hit hn (by rw [List.getElem?_append_right (Nat.le_refl _), Nat.sub_self]; rfl) hx
    unfold headL restL
    rw [this, if_pos (by omega), if_pos (by omega), Int.toNat_natCast]
    exact ⟨List.take_left' rfl, List.drop_left' rfl⟩
/-- The front of a text: user, host, port. -/
def authL (us ho po : List UInt8) (hu : Bool) : List UInt8 := (if hu then us ++ [64] else []) ++ ho ++ (if po.isEmpty then [] else 58 :: po)
theorem tell_auth (sc us ho po pa qu : List UInt8) (hu hq : Bool) : tellL sc us ho po pa qu hu hq = sc ++ 58 :: 47 :: 47 :: (authL us ho po hu ++ (pa ++ if hq then 63 :: qu else [])) := by
  unfold tellL authL
  simp [List.append_assoc]
theorem not_in_dig (x : UInt8) (hx : isDig x = false) (l : List UInt8) (h : l.all isDig = true) : l.contains x = false := by
  cases q : l.contains x
  · rfl
  · have := List.all_eq_true.1 h x (List.contains_iff_mem.1 q)
    rw [hx] at this; cases this
theorem auth_parts (us ho po : List UInt8) (hu : Bool) (h2 : madeB (mayBQ [58]) us = true) (h3 : madeB (mayBQ []) ho = true) (h4 : po.all isDig = true) (he : (hu || us.isEmpty) = true) :
    usL (authL us ho po hu) = us ∧ (authL us ho po hu).contains 64 = hu ∧ ahead 58 (hd2L (authL us ho po hu)) = ho ∧ behind 58 (hd2L (authL us ho po hu)) = po := by
  have u64 := not_in _ 64 (by decide) us h2
  have o64 := not_in _ 64 (by decide) ho h3
  have o58 := not_in _ 58 (by decide) ho h3
  have p64 := not_in_dig 64 (by decide) po h4
  have hend : ahead 58 (ho ++ (if po.isEmpty then [] else 58 :: po)) = ho ∧ behind 58 (ho ++ (if po.isEmpty then [] else 58 :: po)) = po := by
    cases po with
    | nil =>
      have := behind_nil_of 58 ho o58
      simpa using this
    | cons a r =>
      have := ahead_app 58 ho (a :: r) o58
      exact ⟨this.1, this.2.1⟩
  cases hu with
  | true =>
    have e : authL us ho po true = us ++ 64 :: (ho ++ (if po.isEmpty then [] else 58 :: po)) := by unfold authL; simp
    obtain ⟨a1, a2, a3⟩ := ahead_app 64 us (ho ++ (if po.isEmpty then [] else 58 :: po)) u64
    rw [e]
    unfold usL hd2L
    rw [a3, if_pos rfl, if_pos rfl, a1, a2]
    exact ⟨rfl, rfl, hend.1, hend.2⟩
  | false =>
    have hus : us = [] := by cases us with
      | nil => rfl
      | cons a r => cases he
    have e : authL us ho po false = ho ++ (if po.isEmpty then [] else 58 :: po) := by unfold authL; simp
    have c64 : (ho ++ (if po.isEmpty then [] else 58 :: po)).contains 64 = false := by
      cases q : (ho ++ (if po.isEmpty then [] else 58 :: po)).contains 64
      · rfl
      · rw [List.contains_iff_mem, List.mem_append] at q
        rcases q with q | q
        · rw [← List.contains_iff_mem, o64] at q; cases q
        · split at q
          · cases q
          · rcases List.mem_cons.1 q with q | q
            · exact absurd q (by decide)
            · rw [← List.contains_iff_mem, p64] at q; cases q
    rw [e]
    unfold usL hd2L
    rw [c64]
    exact ⟨hus.symm, rfl, hend.1, hend.2⟩
theorem tell_parse {sc us ho po pa qu : List UInt8} {hu hq : Bool} (h : mayL sc us ho po pa qu hu hq = true) :
    parseV (tellL sc us ho po pa qu hu hq) = .tuple #[addrV sc us ho po pa qu hu hq, .int .i64 0] := by
  have hm := h
  unfold mayL oneL twoL at h
  simp only [Bool.and_eq_true] at h
  obtain ⟨⟨⟨⟨⟨⟨⟨h1, h2⟩, h3⟩, h4⟩, h5⟩, h6⟩, ⟨t1, t2⟩, t3⟩, hlen⟩ := h
  have s58 : sc.contains 58 = false := by
    rw [scheme_parts] at h1
    simp only [Bool.and_eq_true] at h1
    exact not_in _ 58 (by decide) sc h1.2
  obtain ⟨p1, p2, p3, p4⟩ := auth_parts us ho po hu h2 h3 h4 t2
  have e := tell_auth sc us ho po pa qu hu hq
  obtain ⟨a1, a2, a3⟩ := ahead_app 58 sc (47 :: 47 :: (authL us ho po hu ++ (pa ++ if hq then 63 :: qu else []))) s58
  rw [← e] at a1 a2 a3
  have hauth : ∀ c ∈ authL us ho po hu, ([47, 63] : List UInt8).contains c = false := by
    intro c hc
    cases q : ([47, 63] : List UInt8).contains c
    · rfl
    · exfalso
      rw [List.contains_iff_mem] at q
      unfold authL at hc
      simp only [List.mem_append] at hc
      have key : ∀ l : List UInt8, l.contains 47 = false → l.contains 63 = false → c ∈ l → False := by
        intro l k1 k2 hl
        rcases List.mem_cons.1 q with q | q
        · rw [q, ← List.contains_iff_mem, k1] at hl; cases hl
        · rw [List.mem_singleton] at q
          rw [q, ← List.contains_iff_mem, k2] at hl; cases hl
      rcases hc with (hc | hc) | hc
      · split at hc
        · rcases List.mem_append.1 hc with hc | hc
          · exact key us (not_in _ 47 (by decide) us h2) (not_in _ 63 (by decide) us h2) hc
          · exact key [64] (by decide) (by decide) hc
        · cases hc
      · exact key ho (not_in _ 47 (by decide) ho h3) (not_in _ 63 (by decide) ho h3) hc
      · split at hc
        · cases hc
        · rcases List.mem_cons.1 hc with hc | hc
          · exact key [58] (by decide) (by decide) (by rw [hc]; exact List.mem_singleton.2 rfl)
          · exact key po (not_in_dig 47 (by decide) po h4) (not_in_dig 63 (by decide) po h4) hc
  have hrest : (pa ++ if hq then 63 :: qu else []) = [] ∨ ∃ x r', (pa ++ if hq then 63 :: qu else []) = x :: r' ∧ ([47, 63] : List UInt8).contains x = true := by
    cases pa with
    | nil =>
      cases hq with
      | true => right; exact ⟨63, qu, rfl, by decide⟩
      | false => left; rfl
    | cons a r =>
      right
      refine ⟨a, r ++ (if hq then 63 :: qu else []), rfl, ?_⟩
      simp only [List.isEmpty_cons, Bool.false_or, List.head?_cons, beq_iff_eq, Option.some.injEq] at t1
      rw [t1]; decide
  obtain ⟨k1, k2⟩ := split_app _ _ hauth hrest
  have r2 : r2L (tellL sc us ho po pa qu hu hq) = authL us ho po hu ++ (pa ++ if hq then 63 :: qu else []) := by unfold r2L; rw [a2]; rfl
  have pa63 := not_in _ 63 (by decide) pa h5
  have hq3 : ahead 63 (pa ++ if hq then 63 :: qu else []) = pa ∧ behind 63 (pa ++ if hq then 63 :: qu else []) = qu ∧ (pa ++ if hq then 63 :: qu else []).contains 63 = hq := by
    cases hq with
    | true => exact ahead_app 63 pa qu pa63
    | false =>
      have hqu : qu = [] := by cases qu with
        | nil => rfl
        | cons a r => cases t3
      have := behind_nil_of 63 pa pa63
      rw [hqu]
      simp only [Bool.false_eq_true, if_false, List.append_nil]
      exact ⟨this.1, this.2, pa63⟩
  have e1 : scP (tellL sc us ho po pa qu hu hq) = sc := a1
  have e2 : hP (tellL sc us ho po pa qu hu hq) = authL us ho po hu := by unfold hP; rw [r2]; exact k1
  have e3 : rtP (tellL sc us ho po pa qu hu hq) = pa ++ if hq then 63 :: qu else [] := by unfold rtP; rw [r2]; exact k2
  have hok : okL (tellL sc us ho po pa qu hu hq) = true := by
    unfold okL
    rw [a3, a2]
    simp only [Bool.and_eq_true, decide_eq_true_eq] at *
    exact ⟨⟨trivial, by simp [Lib.hasPrefix, List.isPrefixOf]⟩, hlen⟩
  have f1 : usP (tellL sc us ho po pa qu hu hq) = us := by unfold usP; rw [e2]; exact p1
  have f2 : huP (tellL sc us ho po pa qu hu hq) = hu := by unfold huP; rw [e2]; exact p2
  have f3 : hoP (tellL sc us ho po pa qu hu hq) = ho := by unfold hoP; rw [e2]; exact p3
  have f4 : poP (tellL sc us ho po pa qu hu hq) = po := by unfold poP; rw [e2]; exact p4
  have f5 : paP (tellL sc us ho po pa qu hu hq) = pa := by unfold paP; rw [e3]; exact hq3.1
  have f6 : quP (tellL sc us ho po pa qu hu hq) = qu := by unfold quP; rw [e3]; exact hq3.2.1
  have f7 : hqP (tellL sc us ho po pa qu hu hq) = hq := by unfold hqP; rw [e3]; exact hq3.2.2
  unfold parseV parseOkQ mayP
  rw [hok, e1, f1, f2, f3, f4, f5, f6, f7, hm]
  rfl
end Go.Proofs.YtjhgiojmlkeccaaGreatDoor
namespace Go.Proofs.YtjhgiojmlkeccaaGreatDoor
open Go.RowKit
/-- A made text, byte by byte. -/
inductive Made (p : UInt8 → Bool) : List UInt8 → Prop
  | nil : Made p []
  | one (a : UInt8) (l : List UInt8) : p a = true → a ≠ 37 → Made p l → Made p (a :: l)
  | esc (b c : UInt8) (l : List UInt8) : isHex b = true → isHex c = true → Made p l → Made p (37 :: b :: c :: l)
theorem made_of (p : UInt8 → Bool) (hp : p 37 = false) : ∀ l, madeB p l = true → Made p l
  | [], _ => .nil
  | [a], h => .one a [] h (by rintro rfl; rw [show madeB p [37] = p 37 from rfl, hp] at h; cases h) .nil
  | [a, b], h => by
    rw [show madeB p [a, b] = (p a && p b) from rfl, Bool.and_eq_true] at h
    refine .one a [b] h.1 (by rintro rfl; rw [hp] at h; cases h.1) (.one b [] h.2 (by rintro rfl; rw [hp] at h; cases h.2) .nil)
  | a :: b :: c :: r, h => by
    rw [madeB] at h
    cases he : (a == 37 && isHex b && isHex c) with
    | true =>
      rw [he] at h
      simp only [if_true] at h
      simp only [Bool.and_eq_true, beq_iff_eq] at he
      rw [he.1.1]
      exact .esc b c r he.1.2 he.2 (made_of p hp r h)
    | false =>
      rw [he] at h
      simp only [Bool.false_eq_true, if_false, Bool.and_eq_true] at h
      exact .one a _ h.1 (by rintro rfl; rw [hp] at h; cases h.1) (made_of p hp (b :: c :: r) h.2)
theorem esc_ne (a : UInt8) (l : List UInt8) (h : a ≠ 37) : esc (a :: l) = false := by
  match l with
  | [] => rfl
  | [b] => rfl
  | b :: c :: r =>
    show (a == 37 && isHex b && isHex c) = false
    rw [show (a == 37) = false from beq_eq_false_iff_ne.2 h]; rfl
theorem of_made {p : UInt8 → Bool} {l : List UInt8} (h : Made p l) : madeB p l = true := by
  induction h with
  | nil => rfl
  | one a l h1 h2 _ ih => rw [madeB_cons, esc_ne a l h2, h1]; exact ih
  | esc b c l h1 h2 _ ih => rw [madeB, h1, h2]; exact ih
theorem up_hex (b : UInt8) (h : isHex b = true) : isHex (upB b) = true ∧ upB (upB b) = upB b ∧ hexI (upB b).toNat = hexI b.toNat := by
  have g := byte_if (f := fun b => !isHex b || (isHex (upB b) && (upB (upB b) == upB b) && decide (hexI (upB b).toNat = hexI b.toNat))) (by decide +kernel) b
  simp only [h, Bool.not_true, Bool.false_or, Bool.and_eq_true, beq_iff_eq, decide_eq_true_eq] at g
  exact ⟨g.1.1, g.1.2, g.2⟩
theorem free_not (c : UInt8) (h : isFree c = true) : c ≠ 37 := by
  rintro rfl
  exact absurd h (by decide +kernel)
theorem low_low (c : UInt8) : lowB (lowB c) = lowB c := by
  have g := byte_if (f := fun c => lowB (lowB c) == lowB c) (by decide +kernel) c
  simpa using g
theorem low_37 (c : UInt8) (h : c ≠ 37) : lowB c ≠ 37 := by
  have g := byte_if (f := fun c => (c == 37) || !(lowB c == 37)) (by decide +kernel) c
  intro e
  simp [h, e] at g
/-- What is in one way may be, and stays. -/
theorem plain_made (p : UInt8 → Bool) (tf : UInt8 → UInt8) (h1 : ∀ a, p a = true → p (tf a) = true) (h2 : ∀ a, a ≠ 37 → tf a ≠ 37) (h3 : ∀ n, isFree n = true → p n = true) (h4 : ∀ a, tf (tf a) = tf a)
    {l : List UInt8} (h : Made p l) : Made p (plainL tf l) ∧ plainL tf (plainL tf l) = plainL tf l := by
  induction h with
  | nil => exact ⟨.nil, rfl⟩
  | one a l k1 k2 _ ih =>
    rw [plain_cons tf a l (esc_ne a l k2)]
    refine ⟨.one _ _ (h1 a k1) (h2 a k2) ih.1, ?_⟩
    rw [plain_cons tf _ _ (esc_ne _ _ (h2 a k2)), h4, ih.2]
  | esc b c l k1 k2 _ ih =>
    rw [plain_esc tf b c l k1 k2]
    obtain ⟨u1, u2, u3⟩ := up_hex b k1
    obtain ⟨v1, v2, v3⟩ := up_hex c k2
    cases hf : isFree (escByte b c) with
    | true =>
      have e : outE tf b c = [tf (escByte b c)] := by unfold outE; rw [if_pos hf]
      rw [e]
      have hn := h2 _ (free_not _ hf)
      refine ⟨.one _ _ (h1 _ (h3 _ hf)) hn ih.1, ?_⟩
      rw [List.singleton_append, plain_cons tf _ _ (esc_ne _ _ hn), h4, ih.2]
    | false =>
      have e : outE tf b c = [37, upB b, upB c] := by unfold outE; rw [if_neg (by rw [hf]; decide)]
      have eb : escByte (upB b) (upB c) = escByte b c := by unfold escByte; rw [u3, v3]
      have e2 : outE tf (upB b) (upB c) = [37, upB b, upB c] := by unfold outE; rw [eb, if_neg (by rw [hf]; decide), u2, v2]
      rw [e]
      refine ⟨.esc _ _ _ u1 v1 ih.1, ?_⟩
      show plainL tf (37 :: upB b :: upB c :: plainL tf l) = 37 :: upB b :: upB c :: plainL tf l
      rw [plain_esc tf _ _ _ u1 v1, e2, ih.2]; rfl
theorem plain_map (tf : UInt8 → UInt8) : ∀ l : List UInt8, l.contains 37 = false → plainL tf l = l.map tf
  | [], _ => rfl
  | a :: l, h => by
    rw [List.contains_cons, Bool.or_eq_false_iff] at h
    have ha : a ≠ 37 := by rintro rfl; simp at h
    rw [plain_cons tf a l (esc_ne a l ha), plain_map tf l h.2]; rfl
theorem okS_of (tf : UInt8 → UInt8) (hL : ∀ c, isLet c = true → isLet (tf c) = true) (hO : ∀ c, okS c = true → okS (tf c) = true) (l : List UInt8) (h : schemeB l = true) : schemeB (l.map tf) = true := by
  cases l with
  | nil => cases h
  | cons c r =>
    simp only [schemeB, Bool.and_eq_true, List.map_cons, List.all_eq_true] at *
    refine ⟨hL c h.1, ?_⟩
    intro x hx
    obtain ⟨y, hy, rfl⟩ := List.mem_map.1 hx
    exact hO y (h.2 y hy)
theorem low_let (c : UInt8) : (isLet c = true → isLet (lowB c) = true) ∧ (okS c = true → okS (lowB c) = true) := by
  have g := byte_if (f := fun c => (!isLet c || isLet (lowB c)) && (!okS c || okS (lowB c))) (by decide +kernel) c
  simp only [Bool.and_eq_true] at g
  exact ⟨fun h => by simpa [h] using g.1, fun h => by simpa [h] using g.2⟩
theorem scheme_no37 (l : List UInt8) (h : schemeB l = true) : l.contains 37 = false := by
  rw [scheme_parts] at h
  simp only [Bool.and_eq_true, Bool.not_eq_true'] at h
  exact h.1.2
theorem tell_len (sc us ho po pa qu : List UInt8) (hu hq : Bool) : (tellL sc us ho po pa qu hu hq).length = sc.length + 3 + (if hu then us.length + 1 else 0) + ho.length + (if po.isEmpty then 0 else po.length + 1) + pa.length + (if hq then qu.length + 1 else 0) := by
  unfold tellL
  cases hu <;> cases hq <;> cases po <;> simp <;> omega
theorem tell_le {sc us ho po pa qu sc' us' ho' pa' qu' : List UInt8} (hu hq : Bool) (h1 : sc'.length ≤ sc.length) (h2 : us'.length ≤ us.length) (h3 : ho'.length ≤ ho.length) (h5 : pa'.length ≤ pa.length) (h6 : qu'.length ≤ qu.length) :
    (tellL sc' us' ho' po pa' qu' hu hq).length ≤ (tellL sc us ho po pa qu hu hq).length := by
  rw [tell_len, tell_len]
  cases hu <;> cases hq <;> simp <;> omega
theorem may_free (ms : List UInt8) (n : UInt8) (h : isFree n = true) : mayBQ ms n = true := by unfold mayBQ; rw [h]; rfl
theorem may_low (n : UInt8) (h : mayBQ [] n = true) : mayBQ [] (lowB n) = true := by
  have g := byte_if (f := fun c => !mayBQ [] c || mayBQ [] (lowB c)) (by decide +kernel) n
  simpa [h] using g
theorem may_plain {sc us ho po pa qu : List UInt8} {hu hq : Bool} (h : mayL sc us ho po pa qu hu hq = true) :
    mayL (plainL lowB sc) (plainL id us) (plainL lowB ho) po (plainL id pa) (plainL id qu) hu hq = true ∧
    plainL lowB (plainL lowB sc) = plainL lowB sc ∧ plainL id (plainL id us) = plainL id us ∧ plainL lowB (plainL lowB ho) = plainL lowB ho ∧ plainL id (plainL id pa) = plainL id pa ∧ plainL id (plainL id qu) = plainL id qu := by
  unfold mayL oneL twoL at h
  simp only [Bool.and_eq_true, decide_eq_true_eq] at h
  obtain ⟨⟨⟨⟨⟨⟨⟨h1, h2⟩, h3⟩, h4⟩, h5⟩, h6⟩, ⟨t1, t2⟩, t3⟩, hlen⟩ := h
  have n1 := scheme_no37 sc h1
  have e1 := plain_map lowB sc n1
  have s1 := okS_of lowB (fun c => (low_let c).1) (fun c => (low_let c).2) sc h1
  obtain ⟨m2, i2⟩ := plain_made (mayBQ [58]) id (fun _ h => h) (fun _ h => h) (may_free _) (fun _ => rfl) (made_of _ (by decide +kernel) us h2)
  obtain ⟨m3, i3⟩ := plain_made (mayBQ []) lowB may_low low_37 (may_free _) low_low (made_of _ (by decide +kernel) ho h3)
  obtain ⟨m5, i5⟩ := plain_made (mayBQ [58, 64, 47]) id (fun _ h => h) (fun _ h => h) (may_free _) (fun _ => rfl) (made_of _ (by decide +kernel) pa h5)
  obtain ⟨m6, i6⟩ := plain_made (mayBQ [58, 64, 47, 63]) id (fun _ h => h) (fun _ h => h) (may_free _) (fun _ => rfl) (made_of _ (by decide +kernel) qu h6)
  have i1 : plainL lowB (plainL lowB sc) = plainL lowB sc := by
    have n2 := scheme_no37 _ s1
    rw [e1, plain_map lowB _ n2, List.map_map]
    apply List.map_congr_left
    intro c _
    exact low_low c
  refine ⟨?_, i1, i2, i3, i5, i6⟩
  unfold mayL oneL twoL
  have l1 := plain_le lowB sc
  have l2 := plain_le id us
  have l3 := plain_le lowB ho
  have l5 := plain_le id pa
  have l6 := plain_le id qu
  have hl := tell_le (po := po) hu hq l1 l2 l3 l5 l6
  rw [e1, s1, of_made m2, of_made m3, h4, of_made m5, of_made m6, decide_eq_true (by rw [e1] at hl; omega)]
  simp only [Bool.true_and, Bool.and_true, Bool.and_eq_true]
  refine ⟨⟨?_, ?_⟩, ?_⟩
  · cases pa with
    | nil => rfl
    | cons a r =>
      simp only [List.isEmpty_cons, Bool.false_or, List.head?_cons, beq_iff_eq, Option.some.injEq] at t1
      rw [t1, plain_cons id 47 r (esc_ne 47 r (by decide))]; rfl
  · cases hu with
    | true => rfl
    | false =>
      cases us with
      | nil => rfl
      | cons a r => cases t2
  · cases hq with
    | true => rfl
    | false =>
      cases qu with
      | nil => rfl
      | cons a r => cases t3
theorem bs_inj {a b : List UInt8} (h : (Value.string (bs a)) = .string (bs b)) : a = b := by
  injection h with h
  have := congrArg (fun x : ByteArray => x.data.toList) h
  exact this
/-- The parts that parts' text tells. -/
theorem told_parts {sc us ho po pa qu : List UInt8} {hu hq : Bool} (h : mayL sc us ho po pa qu hu hq = true) :
    parseOkQ (tellL sc us ho po pa qu hu hq) = true ∧ scP (tellL sc us ho po pa qu hu hq) = sc ∧ usP (tellL sc us ho po pa qu hu hq) = us ∧ hoP (tellL sc us ho po pa qu hu hq) = ho ∧ poP (tellL sc us ho po pa qu hu hq) = po ∧ paP (tellL sc us ho po pa qu hu hq) = pa ∧ quP (tellL sc us ho po pa qu hu hq) = qu ∧ huP (tellL sc us ho po pa qu hu hq) = hu ∧ hqP (tellL sc us ho po pa qu hu hq) = hq := by
  have e := tell_parse h
  generalize tellL sc us ho po pa qu hu hq = t at *
  unfold parseV at e
  cases hok : parseOkQ t with
  | false =>
    rw [hok] at e
    simp only [Bool.false_eq_true, if_false] at e
    injection e with e
    simp [zeroA, addrV] at e
  | true =>
    rw [hok] at e
    simp only [if_true] at e
    injection e with e
    unfold addrV at e
    simp only [Array.mk.injEq, List.cons.injEq, Value.agg.injEq, Value.bool.injEq, and_true] at e
    obtain ⟨e1, e2, e3, e4, e5, e6, e7, e8⟩ := e
    exact ⟨rfl, bs_inj e1, bs_inj e2, bs_inj e3, bs_inj e4, bs_inj e5, bs_inj e6, e7, e8⟩
end Go.Proofs.YtjhgiojmlkeccaaGreatDoor
namespace Go.Proofs.YtjhgiojmlkeccaaGreatDoor
open Go.RowKit Go.Shelf
def addrC : ByteArray → ByteArray × Int := fun s => if parseOkQ s.data.toList then (bs (canonL s.data.toList), 0) else (⟨#[]⟩, 150)
theorem addr_c (w : World) : CanC w 39 #[] addrC := fun s hs W hW => by
  rw [app_nil]
  have := canon_any s (by omega) W
  have e : canonV s.data.toList = .tuple #[.string (addrC s).1, .int .i64 (addrC s).2] := by
    unfold canonV addrC
    cases parseOkQ s.data.toList <;> rfl
  rw [e] at this
  exact this
theorem kind_8 (w : World) (hE : EnvS w) :
    Calls Tryz.prog 15 #[.int .u8 8] w fun e w' => (∃ cap : Array Value, e = .returned (.tuple #[.agg #[.func (.func 46) #[] cap, .nilFunc, .nilFunc, .bool true], .int .i64 0]) ∧ PlC w' 46 cap .nilFunc .nilFunc true (toldR addrC)) ∧ Below w.heap.size w w' := by
  refine (of_8 w).mono ?_
  rintro e w1 ⟨⟨p8, rfl, h1⟩, hb⟩
  exact ⟨⟨_, rfl, plain_c _ _ _ _ _ _ w1 ent_told (told_c p8 _ #[] addrC w1 h1 (enters_of Tryz.func39 (by kernel_rfl) rfl) (hE.u.below hb) (addr_c w1))⟩, hb⟩
theorem tell_asc {sc us ho po pa qu : List UInt8} {hu hq : Bool} (h : mayL sc us ho po pa qu hu hq = true) : (∀ c ∈ tellL sc us ho po pa qu hu hq, c.toNat < 128) ∧ (tellL sc us ho po pa qu hu hq).length ≤ 2048 := by
  obtain ⟨q1, q2, q3, q4, q5⟩ := may_parts h
  unfold mayL oneL at h
  simp only [Bool.and_eq_true, decide_eq_true_eq] at h
  obtain ⟨⟨⟨⟨⟨_, h4⟩, _⟩, _⟩, _⟩, hlen⟩ := h
  refine ⟨?_, hlen⟩
  have x1 : ∀ c ∈ ([58, 47, 47] : List UInt8), c.toNat < 128 := asc_all (by decide)
  have x2 : ∀ c ∈ ([64] : List UInt8), c.toNat < 128 := asc_all (by decide)
  have x3 : ∀ c ∈ ([58] : List UInt8), c.toNat < 128 := asc_all (by decide)
  have x4 : ∀ c ∈ ([63] : List UInt8), c.toNat < 128 := asc_all (by decide)
  have xn : ∀ c ∈ ([] : List UInt8), c.toNat < 128 := fun c hc => (by cases hc)
  have y1 : ∀ c ∈ (if hu then us ++ [64] else []), c.toNat < 128 := by
    split
    · exact asc_app q2 x2
    · exact xn
  have y2 : ∀ c ∈ (if po.isEmpty then [] else 58 :: po), c.toNat < 128 := by
    split
    · exact xn
    · exact asc_app (a := [58]) x3 (asc_dig h4)
  have y3 : ∀ c ∈ (if hq then 63 :: qu else []), c.toNat < 128 := by
    split
    · exact asc_app (a := [63]) x4 q5
    · exact xn
  unfold tellL
  exact asc_app (asc_app (asc_app (asc_app (asc_app (asc_app q1 x1) y1) q3) y2) q4) y3
theorem once_addr : OnceT addrC := fun s h1 h2 h3 => by
  generalize hl : s.data.toList = l at *
  cases hok : parseOkQ l with
  | false =>
    unfold addrC at h3
    rw [hl, hok] at h3
    cases h3
  | true =>
    have e : addrC s = (bs (canonL l), 0) := by unfold addrC; rw [hl, hok]; rfl
    have hm : mayP l = true := by unfold parseOkQ at hok; simp only [Bool.and_eq_true] at hok; exact hok.2
    obtain ⟨m2, i1, i2, i3, i5, i6⟩ := may_plain hm
    obtain ⟨k0, k1, k2, k3, k4, k5, k6, k7, k8⟩ := told_parts m2
    obtain ⟨a1, a2⟩ := tell_asc m2
    have e2 : canonL (canonL l) = canonL l := by
      unfold canonL at *
      rw [k1, k2, k3, k4, k5, k6, k7, k8, i1, i2, i3, i5, i6]
    have e3 : parseOkQ (canonL l) = true := k0
    rw [e]
    refine ⟨?_, ?_, ?_⟩
    · unfold addrC
      rw [bs_list, e3, e2]; rfl
    · rw [bs_list]
      exact chk_ascii _ a1 (Nat.le_trans a2 (by omega))
    · rw [bs_size]
      exact Nat.le_trans a2 (by omega)
theorem once16_any (k : Int) (h0 : 0 ≤ k) (h1 : k ≤ 255) (x : Cl) (hx : (0 ≤ x.k ∧ x.k ≤ 255) ∧ R x.n ∧ R x.m) (w : World) (hE : EnvS w) :
    Calls Tryz.prog 3 #[.int .u8 k, cellV x] w fun e w' => e = .returned (.bool true) ∧ Below w.heap.size w w' := by
  by_cases c1 : k = 1
  · subst c1; exact once16_kind w hE 1 _ _ _ _ _ (by omega) (by omega) (kindc_1 w hE) rfl rfl once_num x hx
  by_cases c2 : k = 2
  · subst c2; exact once16_kind w hE 2 _ _ _ _ _ (by omega) (by omega) (kindc_2 w hE) rfl rfl (once_told once_same) x hx
  by_cases c3 : k = 3
  · subst c3; exact once16_kind w hE 3 _ _ _ _ _ (by omega) (by omega) (kindc_3 w hE) rfl rfl once_bool x hx
  by_cases c4 : k = 4
  · subst c4; exact once16_kind w hE 4 _ _ _ _ _ (by omega) (by omega) (kindc_4 w hE) rfl rfl once_4 x hx
  by_cases c5 : k = 5
  · subst c5; exact once16_kind w hE 5 _ _ _ _ _ (by omega) (by omega) (fun W hW => kind_5 W (hE.below hW)) rfl rfl (once_told once_day) x hx
  by_cases c6 : k = 6
  · subst c6; exact once16_kind w hE 6 _ _ _ _ _ (by omega) (by omega) (fun W hW => kind_6 W (hE.below hW)) rfl rfl (once_told once_uu) x hx
  by_cases c7 : k = 7
  · subst c7; exact once16_kind w hE 7 _ _ _ _ _ (by omega) (by omega) (kindc_7 w hE) rfl rfl once_7 x hx
  by_cases c8 : k = 8
  · subst c8; exact once16_kind w hE 8 _ _ _ _ _ (by omega) (by omega) (fun W hW => kind_8 W (hE.below hW)) rfl rfl (once_told once_addr) x hx
  exact once16_none w hE k h0 h1 (by omega) x
end Go.Proofs.YtjhgiojmlkeccaaGreatDoor
namespace Go.Proofs.YtjhgiojmlkeccaaGreatDoor
open Go.RowKit Go.WideShapes Go.ChangeShapes Go.Joins Go.Deep
open Go.ChangeMaps (open_string shut_string)
theorem cells_cell : Tryz.prog.cellsOf 23 = 5 := by kernel_rfl
section
variable {H : Type} {enc : TypeId × Value → H} {P : Program} {w : World} {base : Nat} {spare : Nat → Bool} {held : Bool}
theorem open_agg5 {r : Reach} {b0 : Nat} {t : TypeId} {f0 f1 f2 f3 f4 : Field} {v : Value} {d : DataW H} {p : List MemPlace} (hs : P.underlying t = some (.struct #[f0, f1, f2, f3, f4])) (hone : oneCellFields P #[f0, f1, f2, f3, f4] = true) (hC : P.cellsOf t = 5)
    (hv : Value.okWide P w r b0 t v) (h : DataW.Trod enc P w base spare held t v d p) :
    ∃ (v0 v1 v2 v3 v4 : Value) (y0 y1 y2 y3 y4 : DataW H × List MemPlace) (n : Nat), v = .agg #[v0, v1, v2, v3, v4] ∧ d = .agg [y0.1, y1.1, y2.1, y3.1, y4.1] ∧ p = y0.2 ++ (y1.2 ++ (y2.2 ++ (y3.2 ++ (y4.2)))) ∧
      DataW.trod enc P w base spare held n f0.type [v0] = some y0 ∧ DataW.trod enc P w base spare held n f1.type [v1] = some y1 ∧ DataW.trod enc P w base spare held n f2.type [v2] = some y2 ∧ DataW.trod enc P w base spare held n f3.type [v3] = some y3 ∧ DataW.trod enc P w base spare held n f4.type [v4] = some y4 := by
  obtain ⟨cs, rfl, hsz⟩ := okWide_struct hs hv
  obtain ⟨l⟩ := cs
  match l, hsz.trans hC with
  | [c0, c1, c2, c3, c4], _ =>
    obtain ⟨fuel, hf⟩ := h
    obtain ⟨xs, n, _, hx, _, hlen, hg⟩ := DataW.trod_struct hs hf
    obtain ⟨o0, k0⟩ := hone_of hone 0 f0 rfl
    obtain ⟨o1, k1⟩ := hone_of hone 1 f1 rfl
    obtain ⟨o2, k2⟩ := hone_of hone 2 f2 rfl
    obtain ⟨o3, k3⟩ := hone_of hone 3 f3 rfl
    obtain ⟨o4, k4⟩ := hone_of hone 4 f4 rfl
    match xs, hlen with
    | [y0, y1, y2, y3, y4], _ =>
      simp only [Prod.mk.injEq] at hx
      exact ⟨c0, c1, c2, c3, c4, y0, y1, y2, y3, y4, n, rfl, by simpa using hx.1, by simpa using hx.2, by simpa [Value.cells, o0, k0] using hg 0 f0 rfl, by simpa [Value.cells, o1, k1] using hg 1 f1 rfl, by simpa [Value.cells, o2, k2] using hg 2 f2 rfl, by simpa [Value.cells, o3, k3] using hg 3 f3 rfl, by simpa [Value.cells, o4, k4] using hg 4 f4 rfl⟩
theorem shut_agg5 {t : TypeId} {f0 f1 f2 f3 f4 : Field} {v0 v1 v2 v3 v4 : Value} {y0 y1 y2 y3 y4 : DataW H × List MemPlace} {n : Nat} (hs : P.underlying t = some (.struct #[f0, f1, f2, f3, f4])) (hone : oneCellFields P #[f0, f1, f2, f3, f4] = true) (hC : P.cellsOf t = 5)
    (t0 : DataW.trod enc P w base spare held n f0.type [v0] = some y0) (t1 : DataW.trod enc P w base spare held n f1.type [v1] = some y1) (t2 : DataW.trod enc P w base spare held n f2.type [v2] = some y2) (t3 : DataW.trod enc P w base spare held n f3.type [v3] = some y3) (t4 : DataW.trod enc P w base spare held n f4.type [v4] = some y4) :
    DataW.Trod enc P w base spare held t (.agg #[v0, v1, v2, v3, v4]) (.agg [y0.1, y1.1, y2.1, y3.1, y4.1]) (y0.2 ++ (y1.2 ++ (y2.2 ++ (y3.2 ++ (y4.2))))) := by
  obtain ⟨o0, k0⟩ := hone_of hone 0 f0 rfl
  obtain ⟨o1, k1⟩ := hone_of hone 1 f1 rfl
  obtain ⟨o2, k2⟩ := hone_of hone 2 f2 rfl
  obtain ⟨o3, k3⟩ := hone_of hone 3 f3 rfl
  obtain ⟨o4, k4⟩ := hone_of hone 4 f4 rfl
  have ts := trod_struct_mk (enc := enc) (w := w) (base := base) (spare := spare) (held := held) (n := n) (cs := [v0, v1, v2, v3, v4]) (xs := [y0, y1, y2, y3, y4]) hs (by simp [hC]) (by simp [o0, k0, t0, o1, k1, t1, o2, k2, t2, o3, k3, t3, o4, k4, t4])
  exact ⟨_, by simpa [Value.cells] using ts⟩
end
section
variable {H : Type} {enc : TypeId × Value → H} {w : World} {base : Nat} {spare : Nat → Bool} {held : Bool}
set_option maxRecDepth 100000 in
theorem open_cell {r : Reach} {b0 : Nat} {v : Value} {d : DataW H} {p : List MemPlace}
    (hv : Value.okWide Tryz.prog w r b0 23 v) (h : DataW.Trod enc Tryz.prog w base spare held 23 v d p) :
    ∃ (k : Int) (nm tx : ByteArray) (n m : Int), v = .agg #[.int .u8 k, .string nm, .string tx, .int .i64 n, .int .i64 m] ∧ d = .agg [.lit (.int .u8 k), .lit (.string nm.data.toList), .lit (.string tx.data.toList), .lit (.int .i64 n), .lit (.int .i64 m)] ∧ p = [] ∧ (Lit.int .u8 k).wf = true ∧ nm.size ≤ maxLen ∧ tx.size ≤ maxLen ∧ (Lit.int .i64 n).wf = true ∧ (Lit.int .i64 m).wf = true := by
  obtain ⟨c0, c1, c2, c3, c4, y0, y1, y2, y3, y4, n, rfl, rfl, rfl, q0, q1, q2, q3, q4⟩ := open_agg5 Tryz.underlying23 (by kernel_rfl) cells_cell hv h
  obtain ⟨k, e0, rfl, z0⟩ := DataW.trod_int Tryz.underlying5 q0
  obtain ⟨nm, e1, rfl, z1⟩ := DataW.trod_string Tryz.underlying9 q1
  obtain ⟨tx, e2, rfl, z2⟩ := DataW.trod_string Tryz.underlying9 q2
  obtain ⟨n1, e3, rfl, z3⟩ := DataW.trod_int Tryz.underlying2 q3
  obtain ⟨m1, e4, rfl, z4⟩ := DataW.trod_int Tryz.underlying3 q4
  simp only [List.cons.injEq, and_true] at e0 e1 e2 e3 e4
  subst e0 e1 e2 e3 e4
  exact ⟨k, nm, tx, n1, m1, rfl, rfl, rfl, z0, z1, z2, z3, z4⟩
set_option maxRecDepth 100000 in
theorem shut_cell {k : Int} {nm tx : ByteArray} {n m : Int} (z0 : (Lit.int .u8 k).wf = true) (z1 : nm.size ≤ maxLen) (z2 : tx.size ≤ maxLen) (z3 : (Lit.int .i64 n).wf = true) (z4 : (Lit.int .i64 m).wf = true) :
    DataW.Trod enc Tryz.prog w base spare held 23 (.agg #[.int .u8 k, .string nm, .string tx, .int .i64 n, .int .i64 m]) (.agg [.lit (.int .u8 k), .lit (.string nm.data.toList), .lit (.string tx.data.toList), .lit (.int .i64 n), .lit (.int .i64 m)]) [] :=
  shut_agg5 (y0 := (.lit (.int .u8 k), [])) (y1 := (.lit (.string nm.data.toList), [])) (y2 := (.lit (.string tx.data.toList), [])) (y3 := (.lit (.int .i64 n), [])) (y4 := (.lit (.int .i64 m), [])) (n := 1) Tryz.underlying23 (by kernel_rfl) cells_cell
    (by simp [DataW.trod, Tryz.underlying5, z0]) (by simp [DataW.trod, Tryz.underlying9, z1]) (by simp [DataW.trod, Tryz.underlying9, z2]) (by simp [DataW.trod, Tryz.underlying2, z3]) (by simp [DataW.trod, Tryz.underlying3, z4])
end
end Go.Proofs.YtjhgiojmlkeccaaGreatDoor
namespace Go.Proofs.YtjhgiojmlkeccaaGreatDoor
open Go.RowKit Go.WideShapes Go.ChangeShapes
section
variable {H : Type} {enc : TypeId × Value → H} {P : Program}
/-- What 'post_of_same' asks of all addresses is asked here of the old blocks alone. -/
theorem post_below {f : Func} {s : ChangeSpec} {apart fresh handsOn again : Bool} {W W' : World} {args : Array Value} {v : Value} {ds gs : List (DataW H)} {before pa pv : List MemPlace}
    (hW : DataW.Whole enc P f.params.toList s.vars apart W args.toList ds gs before)
    (hres : ∀ (b : Nat) (sp : Nat → Bool) (hd : Bool), DataW.TrodAll enc P W' b sp hd f.resultTypes.toList (v.resultList f.resultTypes.size) (s.fn H (ds ++ gs)).results [])
    (hargs : ∀ sp : Nat → Bool, (∀ p ∈ before, sp p.block = true) → DataW.TrodAll enc P W' 0 sp true f.params.toList args.toList (s.fn H (ds ++ gs)).args pa)
    (hvars : ∀ sp : Nat → Bool, (∀ p ∈ before, sp p.block = true) → DataW.TrodVars enc P W' sp s.vars (s.fn H (ds ++ gs)).vars pv)
    (hps : before = pa ++ pv) (hb : Below W.heap.size W W')
    (hok : ∀ (j : Nat) (t : TypeId) (r : Value), f.resultTypes[j]? = some t → (v.resultList f.resultTypes.size)[j]? = some r → Value.okWide P W' .any 0 t r) :
    s.post enc P f apart fresh handsOn again W args v W' := by
  have old : ∀ p ∈ before, decide (p.block < W.heap.size) = true := fun p hp => decide_eq_true (hW.lt p hp)
  subst hps
  refine ⟨ds, gs, pa ++ pv, [], pa, pv, hW, hres _ _ _, hargs _ old, hvars _ old, World.keptBut_mono (fun p hp => ⟨hp, ?_⟩) (hb.frame (· ∈ pa ++ pv)), fun _ => ?_⟩
  · exact .inr (List.mem_append.1 hp)
  · obtain ⟨_, _, _, _, _, hz, hn⟩ := hW
    refine ⟨hok, _, _, ([] ++ pa) ++ pv, ⟨[] ++ pa, pv, trodAll_append (hargs _ (fun _ _ => rfl)) (hres _ _ _), hvars _ (fun _ _ => rfl), rfl, ?_, ?_⟩, ?_⟩
    · intro b off hp
      have hin : MemPlace.cell b off ∈ pa ++ pv := by simpa using hp
      rw [hb.frozen (of_decide_eq_true (old _ hin))]
      exact hz b off hin
    · intro ha
      simpa using hn ha
    · intro p hp _
      simpa using hp
end
end Go.Proofs.YtjhgiojmlkeccaaGreatDoor
