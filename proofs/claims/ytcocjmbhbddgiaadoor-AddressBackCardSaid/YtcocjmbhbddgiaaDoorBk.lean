/- The walk of the law AddressBack. -/
import Derived.Test.YtcocjmbhbddgiaaDoorBj
import Derived.Test.YtcocjmbhbddgiaaDoorBh
import Derived.Test.YtcocjmbhbddgiaaDoorAs
set_option linter.unusedSimpArgs false
set_option linter.unusedVariables false
namespace Go.Proofs.YtcocjmbhbddgiaaDoor
open Go.RowKit
theorem pother {b b' i : Nat} {W : World} {o : Obj} (h : W.heap[b]? = some o) (v : Value) (hne : b ≠ b') : (W.setCell ⟨b', i, none⟩ v).heap[b]? = some o := by
  rw [Below.heap_setCell _ _ _ _ hne]; exact h
theorem heap_old {b : Nat} {W : World} {o o' : Obj} (h : W.heap[b]? = some o) : (W.alloc o').heap[b]? = some o := by
  rw [Below.heap_alloc _ _ _ (Array.getElem?_eq_some_iff.1 h).1]; exact h
theorem heap_new (W : World) (o : Obj) (b : Nat) (hb : b = W.heap.size) : (W.alloc o).heap[b]? = some o := by rw [hb]; exact heap_alloc_new W o
theorem heap_lt {b : Nat} {W : World} {o : Obj} (h : W.heap[b]? = some o) : b < W.heap.size := (Array.getElem?_eq_some_iff.1 h).1
set_option maxRecDepth 100000 in
theorem back_big0 (sc us ho po pa qu s : ByteArray) (hu hq : Bool)  (q : 1000 < sc.size) (w : World) :
    Calls Tryd.prog 5 #[.agg #[.string sc, .string us, .string ho, .string po, .string pa, .string qu, .bool hu, .bool hq], .string s] w fun e w' => e = .returned (.bool true) ∧ Below w.heap.size w w' := by
  have AL := Lib.hid (fun w => alive_any w)
  go_enter Tryd.func5, Tryd.ntmps5
  go_wp2_with fail
  refine (AL.out _).mono ?_; rintro e w1 ⟨rfl, hb⟩
  have hh0 : w1.heap[w.heap.size]? = some (.cells #[.string sc, .string us, .string ho, .string po, .string pa, .string qu, .bool hu, .bool hq] 23 (0, 0)) := (hb.block _ (by first | omega | (simp; done) | (simp; omega))).trans (heap_new _ _ _ (by first | rfl | simp))
  have hbw1 : Below w.heap.size w w1 := (show Below w.heap.size w _ by first | exact Below.refl _ _ | (go_grown; done)).trans (hb.mono (by first | omega | (simp; done) | (simp; omega)))
  clear hb
  have HH0_1 := Lib.hid hh0
  have lt0 := heap_lt hh0
  have c0_0 : w1.cell? ⟨w.heap.size, 0, none⟩ = some (.string sc) := by rw [Lib.cell_of_heap hh0]; rfl
  have c0_1 : w1.cell? ⟨w.heap.size, 1, none⟩ = some (.string us) := by rw [Lib.cell_of_heap hh0]; rfl
  have c0_2 : w1.cell? ⟨w.heap.size, 2, none⟩ = some (.string ho) := by rw [Lib.cell_of_heap hh0]; rfl
  have c0_3 : w1.cell? ⟨w.heap.size, 3, none⟩ = some (.string po) := by rw [Lib.cell_of_heap hh0]; rfl
  have c0_4 : w1.cell? ⟨w.heap.size, 4, none⟩ = some (.string pa) := by rw [Lib.cell_of_heap hh0]; rfl
  have c0_5 : w1.cell? ⟨w.heap.size, 5, none⟩ = some (.string qu) := by rw [Lib.cell_of_heap hh0]; rfl
  have c0_6 : w1.cell? ⟨w.heap.size, 6, none⟩ = some (.bool hu) := by rw [Lib.cell_of_heap hh0]; rfl
  have c0_7 : w1.cell? ⟨w.heap.size, 7, none⟩ = some (.bool hq) := by rw [Lib.cell_of_heap hh0]; rfl
  clear hh0
  have sz1 := hbw1.size
  have HW1 := Lib.hid hbw1
  go_wp2_with fail
  go_ret
  exact ⟨rfl, HW1.out⟩
set_option maxRecDepth 100000 in
theorem back_big1 (sc us ho po pa qu s : ByteArray) (hu hq : Bool) (g0 : sc.size ≤ 1000) (q : 1000 < us.size) (w : World) :
    Calls Tryd.prog 5 #[.agg #[.string sc, .string us, .string ho, .string po, .string pa, .string qu, .bool hu, .bool hq], .string s] w fun e w' => e = .returned (.bool true) ∧ Below w.heap.size w w' := by
  have AL := Lib.hid (fun w => alive_any w)
  go_enter Tryd.func5, Tryd.ntmps5
  go_wp2_with fail
  refine (AL.out _).mono ?_; rintro e w1 ⟨rfl, hb⟩
  have hh0 : w1.heap[w.heap.size]? = some (.cells #[.string sc, .string us, .string ho, .string po, .string pa, .string qu, .bool hu, .bool hq] 23 (0, 0)) := (hb.block _ (by first | omega | (simp; done) | (simp; omega))).trans (heap_new _ _ _ (by first | rfl | simp))
  have hbw1 : Below w.heap.size w w1 := (show Below w.heap.size w _ by first | exact Below.refl _ _ | (go_grown; done)).trans (hb.mono (by first | omega | (simp; done) | (simp; omega)))
  clear hb
  have HH0_1 := Lib.hid hh0
  have lt0 := heap_lt hh0
  have c0_0 : w1.cell? ⟨w.heap.size, 0, none⟩ = some (.string sc) := by rw [Lib.cell_of_heap hh0]; rfl
  have c0_1 : w1.cell? ⟨w.heap.size, 1, none⟩ = some (.string us) := by rw [Lib.cell_of_heap hh0]; rfl
  have c0_2 : w1.cell? ⟨w.heap.size, 2, none⟩ = some (.string ho) := by rw [Lib.cell_of_heap hh0]; rfl
  have c0_3 : w1.cell? ⟨w.heap.size, 3, none⟩ = some (.string po) := by rw [Lib.cell_of_heap hh0]; rfl
  have c0_4 : w1.cell? ⟨w.heap.size, 4, none⟩ = some (.string pa) := by rw [Lib.cell_of_heap hh0]; rfl
  have c0_5 : w1.cell? ⟨w.heap.size, 5, none⟩ = some (.string qu) := by rw [Lib.cell_of_heap hh0]; rfl
  have c0_6 : w1.cell? ⟨w.heap.size, 6, none⟩ = some (.bool hu) := by rw [Lib.cell_of_heap hh0]; rfl
  have c0_7 : w1.cell? ⟨w.heap.size, 7, none⟩ = some (.bool hq) := by rw [Lib.cell_of_heap hh0]; rfl
  clear hh0
  have sz1 := hbw1.size
  have HW1 := Lib.hid hbw1
  go_wp2_with fail
  go_ret
  exact ⟨rfl, HW1.out⟩
set_option maxRecDepth 100000 in
theorem back_big2 (sc us ho po pa qu s : ByteArray) (hu hq : Bool) (g0 : sc.size ≤ 1000) (g1 : us.size ≤ 1000) (q : 1000 < ho.size) (w : World) :
    Calls Tryd.prog 5 #[.agg #[.string sc, .string us, .string ho, .string po, .string pa, .string qu, .bool hu, .bool hq], .string s] w fun e w' => e = .returned (.bool true) ∧ Below w.heap.size w w' := by
  have AL := Lib.hid (fun w => alive_any w)
  go_enter Tryd.func5, Tryd.ntmps5
  go_wp2_with fail
  refine (AL.out _).mono ?_; rintro e w1 ⟨rfl, hb⟩
  have hh0 : w1.heap[w.heap.size]? = some (.cells #[.string sc, .string us, .string ho, .string po, .string pa, .string qu, .bool hu, .bool hq] 23 (0, 0)) := (hb.block _ (by first | omega | (simp; done) | (simp; omega))).trans (heap_new _ _ _ (by first | rfl | simp))
  have hbw1 : Below w.heap.size w w1 := (show Below w.heap.size w _ by first | exact Below.refl _ _ | (go_grown; done)).trans (hb.mono (by first | omega | (simp; done) | (simp; omega)))
  clear hb
  have HH0_1 := Lib.hid hh0
  have lt0 := heap_lt hh0
  have c0_0 : w1.cell? ⟨w.heap.size, 0, none⟩ = some (.string sc) := by rw [Lib.cell_of_heap hh0]; rfl
  have c0_1 : w1.cell? ⟨w.heap.size, 1, none⟩ = some (.string us) := by rw [Lib.cell_of_heap hh0]; rfl
  have c0_2 : w1.cell? ⟨w.heap.size, 2, none⟩ = some (.string ho) := by rw [Lib.cell_of_heap hh0]; rfl
  have c0_3 : w1.cell? ⟨w.heap.size, 3, none⟩ = some (.string po) := by rw [Lib.cell_of_heap hh0]; rfl
  have c0_4 : w1.cell? ⟨w.heap.size, 4, none⟩ = some (.string pa) := by rw [Lib.cell_of_heap hh0]; rfl
  have c0_5 : w1.cell? ⟨w.heap.size, 5, none⟩ = some (.string qu) := by rw [Lib.cell_of_heap hh0]; rfl
  have c0_6 : w1.cell? ⟨w.heap.size, 6, none⟩ = some (.bool hu) := by rw [Lib.cell_of_heap hh0]; rfl
  have c0_7 : w1.cell? ⟨w.heap.size, 7, none⟩ = some (.bool hq) := by rw [Lib.cell_of_heap hh0]; rfl
  clear hh0
  have sz1 := hbw1.size
  have HW1 := Lib.hid hbw1
  go_wp2_with fail
  go_ret
  exact ⟨rfl, HW1.out⟩
set_option maxRecDepth 100000 in
theorem back_big3 (sc us ho po pa qu s : ByteArray) (hu hq : Bool) (g0 : sc.size ≤ 1000) (g1 : us.size ≤ 1000) (g2 : ho.size ≤ 1000) (q : 1000 < po.size) (w : World) :
    Calls Tryd.prog 5 #[.agg #[.string sc, .string us, .string ho, .string po, .string pa, .string qu, .bool hu, .bool hq], .string s] w fun e w' => e = .returned (.bool true) ∧ Below w.heap.size w w' := by
  have AL := Lib.hid (fun w => alive_any w)
  go_enter Tryd.func5, Tryd.ntmps5
  go_wp2_with fail
  refine (AL.out _).mono ?_; rintro e w1 ⟨rfl, hb⟩
  have hh0 : w1.heap[w.heap.size]? = some (.cells #[.string sc, .string us, .string ho, .string po, .string pa, .string qu, .bool hu, .bool hq] 23 (0, 0)) := (hb.block _ (by first | omega | (simp; done) | (simp; omega))).trans (heap_new _ _ _ (by first | rfl | simp))
  have hbw1 : Below w.heap.size w w1 := (show Below w.heap.size w _ by first | exact Below.refl _ _ | (go_grown; done)).trans (hb.mono (by first | omega | (simp; done) | (simp; omega)))
  clear hb
  have HH0_1 := Lib.hid hh0
  have lt0 := heap_lt hh0
  have c0_0 : w1.cell? ⟨w.heap.size, 0, none⟩ = some (.string sc) := by rw [Lib.cell_of_heap hh0]; rfl
  have c0_1 : w1.cell? ⟨w.heap.size, 1, none⟩ = some (.string us) := by rw [Lib.cell_of_heap hh0]; rfl
  have c0_2 : w1.cell? ⟨w.heap.size, 2, none⟩ = some (.string ho) := by rw [Lib.cell_of_heap hh0]; rfl
  have c0_3 : w1.cell? ⟨w.heap.size, 3, none⟩ = some (.string po) := by rw [Lib.cell_of_heap hh0]; rfl
  have c0_4 : w1.cell? ⟨w.heap.size, 4, none⟩ = some (.string pa) := by rw [Lib.cell_of_heap hh0]; rfl
  have c0_5 : w1.cell? ⟨w.heap.size, 5, none⟩ = some (.string qu) := by rw [Lib.cell_of_heap hh0]; rfl
  have c0_6 : w1.cell? ⟨w.heap.size, 6, none⟩ = some (.bool hu) := by rw [Lib.cell_of_heap hh0]; rfl
  have c0_7 : w1.cell? ⟨w.heap.size, 7, none⟩ = some (.bool hq) := by rw [Lib.cell_of_heap hh0]; rfl
  clear hh0
  have sz1 := hbw1.size
  have HW1 := Lib.hid hbw1
  go_wp2_with fail
  go_ret
  exact ⟨rfl, HW1.out⟩
set_option maxRecDepth 100000 in
theorem back_big4 (sc us ho po pa qu s : ByteArray) (hu hq : Bool) (g0 : sc.size ≤ 1000) (g1 : us.size ≤ 1000) (g2 : ho.size ≤ 1000) (g3 : po.size ≤ 1000) (q : 1000 < pa.size) (w : World) :
    Calls Tryd.prog 5 #[.agg #[.string sc, .string us, .string ho, .string po, .string pa, .string qu, .bool hu, .bool hq], .string s] w fun e w' => e = .returned (.bool true) ∧ Below w.heap.size w w' := by
  have AL := Lib.hid (fun w => alive_any w)
  go_enter Tryd.func5, Tryd.ntmps5
  go_wp2_with fail
  refine (AL.out _).mono ?_; rintro e w1 ⟨rfl, hb⟩
  have hh0 : w1.heap[w.heap.size]? = some (.cells #[.string sc, .string us, .string ho, .string po, .string pa, .string qu, .bool hu, .bool hq] 23 (0, 0)) := (hb.block _ (by first | omega | (simp; done) | (simp; omega))).trans (heap_new _ _ _ (by first | rfl | simp))
  have hbw1 : Below w.heap.size w w1 := (show Below w.heap.size w _ by first | exact Below.refl _ _ | (go_grown; done)).trans (hb.mono (by first | omega | (simp; done) | (simp; omega)))
  clear hb
  have HH0_1 := Lib.hid hh0
  have lt0 := heap_lt hh0
  have c0_0 : w1.cell? ⟨w.heap.size, 0, none⟩ = some (.string sc) := by rw [Lib.cell_of_heap hh0]; rfl
  have c0_1 : w1.cell? ⟨w.heap.size, 1, none⟩ = some (.string us) := by rw [Lib.cell_of_heap hh0]; rfl
  have c0_2 : w1.cell? ⟨w.heap.size, 2, none⟩ = some (.string ho) := by rw [Lib.cell_of_heap hh0]; rfl
  have c0_3 : w1.cell? ⟨w.heap.size, 3, none⟩ = some (.string po) := by rw [Lib.cell_of_heap hh0]; rfl
  have c0_4 : w1.cell? ⟨w.heap.size, 4, none⟩ = some (.string pa) := by rw [Lib.cell_of_heap hh0]; rfl
  have c0_5 : w1.cell? ⟨w.heap.size, 5, none⟩ = some (.string qu) := by rw [Lib.cell_of_heap hh0]; rfl
  have c0_6 : w1.cell? ⟨w.heap.size, 6, none⟩ = some (.bool hu) := by rw [Lib.cell_of_heap hh0]; rfl
  have c0_7 : w1.cell? ⟨w.heap.size, 7, none⟩ = some (.bool hq) := by rw [Lib.cell_of_heap hh0]; rfl
  clear hh0
  have sz1 := hbw1.size
  have HW1 := Lib.hid hbw1
  go_wp2_with fail
  go_ret
  exact ⟨rfl, HW1.out⟩
set_option maxRecDepth 100000 in
theorem back_big5 (sc us ho po pa qu s : ByteArray) (hu hq : Bool) (g0 : sc.size ≤ 1000) (g1 : us.size ≤ 1000) (g2 : ho.size ≤ 1000) (g3 : po.size ≤ 1000) (g4 : pa.size ≤ 1000) (q : 1000 < qu.size) (w : World) :
    Calls Tryd.prog 5 #[.agg #[.string sc, .string us, .string ho, .string po, .string pa, .string qu, .bool hu, .bool hq], .string s] w fun e w' => e = .returned (.bool true) ∧ Below w.heap.size w w' := by
  have AL := Lib.hid (fun w => alive_any w)
  go_enter Tryd.func5, Tryd.ntmps5
  go_wp2_with fail
  refine (AL.out _).mono ?_; rintro e w1 ⟨rfl, hb⟩
  have hh0 : w1.heap[w.heap.size]? = some (.cells #[.string sc, .string us, .string ho, .string po, .string pa, .string qu, .bool hu, .bool hq] 23 (0, 0)) := (hb.block _ (by first | omega | (simp; done) | (simp; omega))).trans (heap_new _ _ _ (by first | rfl | simp))
  have hbw1 : Below w.heap.size w w1 := (show Below w.heap.size w _ by first | exact Below.refl _ _ | (go_grown; done)).trans (hb.mono (by first | omega | (simp; done) | (simp; omega)))
  clear hb
  have HH0_1 := Lib.hid hh0
  have lt0 := heap_lt hh0
  have c0_0 : w1.cell? ⟨w.heap.size, 0, none⟩ = some (.string sc) := by rw [Lib.cell_of_heap hh0]; rfl
  have c0_1 : w1.cell? ⟨w.heap.size, 1, none⟩ = some (.string us) := by rw [Lib.cell_of_heap hh0]; rfl
  have c0_2 : w1.cell? ⟨w.heap.size, 2, none⟩ = some (.string ho) := by rw [Lib.cell_of_heap hh0]; rfl
  have c0_3 : w1.cell? ⟨w.heap.size, 3, none⟩ = some (.string po) := by rw [Lib.cell_of_heap hh0]; rfl
  have c0_4 : w1.cell? ⟨w.heap.size, 4, none⟩ = some (.string pa) := by rw [Lib.cell_of_heap hh0]; rfl
  have c0_5 : w1.cell? ⟨w.heap.size, 5, none⟩ = some (.string qu) := by rw [Lib.cell_of_heap hh0]; rfl
  have c0_6 : w1.cell? ⟨w.heap.size, 6, none⟩ = some (.bool hu) := by rw [Lib.cell_of_heap hh0]; rfl
  have c0_7 : w1.cell? ⟨w.heap.size, 7, none⟩ = some (.bool hq) := by rw [Lib.cell_of_heap hh0]; rfl
  clear hh0
  have sz1 := hbw1.size
  have HW1 := Lib.hid hbw1
  go_wp2_with fail
  go_ret
  exact ⟨rfl, HW1.out⟩
set_option maxRecDepth 100000 in
theorem back_big6 (sc us ho po pa qu s : ByteArray) (hu hq : Bool) (g0 : sc.size ≤ 1000) (g1 : us.size ≤ 1000) (g2 : ho.size ≤ 1000) (g3 : po.size ≤ 1000) (g4 : pa.size ≤ 1000) (g5 : qu.size ≤ 1000) (q : 3000 < s.size) (w : World) :
    Calls Tryd.prog 5 #[.agg #[.string sc, .string us, .string ho, .string po, .string pa, .string qu, .bool hu, .bool hq], .string s] w fun e w' => e = .returned (.bool true) ∧ Below w.heap.size w w' := by
  have AL := Lib.hid (fun w => alive_any w)
  go_enter Tryd.func5, Tryd.ntmps5
  go_wp2_with fail
  refine (AL.out _).mono ?_; rintro e w1 ⟨rfl, hb⟩
  have hh0 : w1.heap[w.heap.size]? = some (.cells #[.string sc, .string us, .string ho, .string po, .string pa, .string qu, .bool hu, .bool hq] 23 (0, 0)) := (hb.block _ (by first | omega | (simp; done) | (simp; omega))).trans (heap_new _ _ _ (by first | rfl | simp))
  have hbw1 : Below w.heap.size w w1 := (show Below w.heap.size w _ by first | exact Below.refl _ _ | (go_grown; done)).trans (hb.mono (by first | omega | (simp; done) | (simp; omega)))
  clear hb
  have HH0_1 := Lib.hid hh0
  have lt0 := heap_lt hh0
  have c0_0 : w1.cell? ⟨w.heap.size, 0, none⟩ = some (.string sc) := by rw [Lib.cell_of_heap hh0]; rfl
  have c0_1 : w1.cell? ⟨w.heap.size, 1, none⟩ = some (.string us) := by rw [Lib.cell_of_heap hh0]; rfl
  have c0_2 : w1.cell? ⟨w.heap.size, 2, none⟩ = some (.string ho) := by rw [Lib.cell_of_heap hh0]; rfl
  have c0_3 : w1.cell? ⟨w.heap.size, 3, none⟩ = some (.string po) := by rw [Lib.cell_of_heap hh0]; rfl
  have c0_4 : w1.cell? ⟨w.heap.size, 4, none⟩ = some (.string pa) := by rw [Lib.cell_of_heap hh0]; rfl
  have c0_5 : w1.cell? ⟨w.heap.size, 5, none⟩ = some (.string qu) := by rw [Lib.cell_of_heap hh0]; rfl
  have c0_6 : w1.cell? ⟨w.heap.size, 6, none⟩ = some (.bool hu) := by rw [Lib.cell_of_heap hh0]; rfl
  have c0_7 : w1.cell? ⟨w.heap.size, 7, none⟩ = some (.bool hq) := by rw [Lib.cell_of_heap hh0]; rfl
  clear hh0
  have sz1 := hbw1.size
  have HW1 := Lib.hid hbw1
  go_wp2_with fail
  go_ret
  exact ⟨rfl, HW1.out⟩
set_option maxRecDepth 100000 in
set_option maxHeartbeats 4000000 in
theorem back_00 (sc us ho po pa qu s : ByteArray) (hu hq : Bool) (g0 : sc.size ≤ 1000) (g1 : us.size ≤ 1000) (g2 : ho.size ≤ 1000) (g3 : po.size ≤ 1000) (g4 : pa.size ≤ 1000) (g5 : qu.size ≤ 1000) (g6 : s.size ≤ 3000) (t u sc2 us2 ho2 po2 pa2 qu2 : ByteArray) (hu2 hq2 : Bool)
    (HT : Hid (Does 6 #[.agg #[.string sc, .string us, .string ho, .string po, .string pa, .string qu, .bool hu, .bool hq]] (.tuple #[.string t, .int .i64 0]))) (HTE : Hid (∀ w, Calls Tryd.prog 10 #[.string t, .agg #[.string sc, .string us, .string ho, .string po, .string pa, .string qu, .bool hu, .bool hq]] w fun e w' => e = .returned (.bool true) ∧ Below w.heap.size w w'))
    (HP : Hid (Does 13 #[.string s] (.tuple #[.agg #[.string sc2, .string us2, .string ho2, .string po2, .string pa2, .string qu2, .bool hu2, .bool hq2], .int .i64 150]))) (HU : Hid (Does 6 #[.agg #[.string sc2, .string us2, .string ho2, .string po2, .string pa2, .string qu2, .bool hu2, .bool hq2]] (.tuple #[.string u, .int .i64 150]))) (s1 : s.toList = []) (s2 : s.toList.isEmpty = true) (w : World) :
    Calls Tryd.prog 5 #[.agg #[.string sc, .string us, .string ho, .string po, .string pa, .string qu, .bool hu, .bool hq], .string s] w fun e w' => e = .returned (.bool true) ∧ Below w.heap.size w w' := by
  have AL := Lib.hid (fun w => alive_any w)
  go_enter Tryd.func5, Tryd.ntmps5
  go_wp2_with fail
  refine (AL.out _).mono ?_; rintro e w1 ⟨rfl, hb⟩
  have hh0 : w1.heap[w.heap.size]? = some (.cells #[.string sc, .string us, .string ho, .string po, .string pa, .string qu, .bool hu, .bool hq] 23 (0, 0)) := (hb.block _ (by first | omega | (simp; done) | (simp; omega))).trans (heap_new _ _ _ (by first | rfl | simp))
  have hbw1 : Below w.heap.size w w1 := (show Below w.heap.size w _ by first | exact Below.refl _ _ | (go_grown; done)).trans (hb.mono (by first | omega | (simp; done) | (simp; omega)))
  clear hb
  have HH0_1 := Lib.hid hh0
  have lt0 := heap_lt hh0
  have c0_0 : w1.cell? ⟨w.heap.size, 0, none⟩ = some (.string sc) := by rw [Lib.cell_of_heap hh0]; rfl
  have c0_1 : w1.cell? ⟨w.heap.size, 1, none⟩ = some (.string us) := by rw [Lib.cell_of_heap hh0]; rfl
  have c0_2 : w1.cell? ⟨w.heap.size, 2, none⟩ = some (.string ho) := by rw [Lib.cell_of_heap hh0]; rfl
  have c0_3 : w1.cell? ⟨w.heap.size, 3, none⟩ = some (.string po) := by rw [Lib.cell_of_heap hh0]; rfl
  have c0_4 : w1.cell? ⟨w.heap.size, 4, none⟩ = some (.string pa) := by rw [Lib.cell_of_heap hh0]; rfl
  have c0_5 : w1.cell? ⟨w.heap.size, 5, none⟩ = some (.string qu) := by rw [Lib.cell_of_heap hh0]; rfl
  have c0_6 : w1.cell? ⟨w.heap.size, 6, none⟩ = some (.bool hu) := by rw [Lib.cell_of_heap hh0]; rfl
  have c0_7 : w1.cell? ⟨w.heap.size, 7, none⟩ = some (.bool hq) := by rw [Lib.cell_of_heap hh0]; rfl
  clear hh0
  have sz1 := hbw1.size
  have HW1 := Lib.hid hbw1
  go_wp2_with fail
  refine (HT.out _).mono ?_; rintro e w2 ⟨rfl, hb⟩
  have hv0 := HH0_1.out
  have hh0 : w2.heap[w.heap.size]? = some (.cells #[.string sc, .string us, .string ho, .string po, .string pa, .string qu, .bool hu, .bool hq] 23 (0, 0)) := (hb.block _ (heap_lt hv0)).trans hv0
  clear hv0
  have hbw2 : Below w.heap.size w w2 := (show Below w.heap.size w _ by first | exact HW1.out.trans ⟨rfl, rfl, rfl, Nat.le_refl _, fun _ _ => rfl⟩ | exact HW1.out | (go_grown; done)).trans (hb.mono (by first | omega | (simp; done) | (simp; omega)))
  clear hb lt0 c0_0 c0_1 c0_2 c0_3 c0_4 c0_5 c0_6 c0_7 hbw1
  have HH0_2 := Lib.hid hh0
  have lt0 := heap_lt hh0
  have c0_0 : w2.cell? ⟨w.heap.size, 0, none⟩ = some (.string sc) := by rw [Lib.cell_of_heap hh0]; rfl
  have c0_1 : w2.cell? ⟨w.heap.size, 1, none⟩ = some (.string us) := by rw [Lib.cell_of_heap hh0]; rfl
  have c0_2 : w2.cell? ⟨w.heap.size, 2, none⟩ = some (.string ho) := by rw [Lib.cell_of_heap hh0]; rfl
  have c0_3 : w2.cell? ⟨w.heap.size, 3, none⟩ = some (.string po) := by rw [Lib.cell_of_heap hh0]; rfl
  have c0_4 : w2.cell? ⟨w.heap.size, 4, none⟩ = some (.string pa) := by rw [Lib.cell_of_heap hh0]; rfl
  have c0_5 : w2.cell? ⟨w.heap.size, 5, none⟩ = some (.string qu) := by rw [Lib.cell_of_heap hh0]; rfl
  have c0_6 : w2.cell? ⟨w.heap.size, 6, none⟩ = some (.bool hu) := by rw [Lib.cell_of_heap hh0]; rfl
  have c0_7 : w2.cell? ⟨w.heap.size, 7, none⟩ = some (.bool hq) := by rw [Lib.cell_of_heap hh0]; rfl
  clear hh0
  have sz2 := hbw2.size
  have HW2 := Lib.hid hbw2
  go_wp2_with fail
  refine (HTE.out _).mono ?_; rintro e w3 ⟨rfl, hb⟩
  have hv0 := HH0_2.out
  have hh0 : w3.heap[w.heap.size]? = some (.cells #[.string sc, .string us, .string ho, .string po, .string pa, .string qu, .bool hu, .bool hq] 23 (0, 0)) := (hb.block _ (heap_lt hv0)).trans hv0
  clear hv0
  have hbw3 : Below w.heap.size w w3 := (show Below w.heap.size w _ by first | exact HW2.out.trans ⟨rfl, rfl, rfl, Nat.le_refl _, fun _ _ => rfl⟩ | exact HW2.out | (go_grown; done)).trans (hb.mono (by first | omega | (simp; done) | (simp; omega)))
  clear hb lt0 c0_0 c0_1 c0_2 c0_3 c0_4 c0_5 c0_6 c0_7 hbw2
  have HH0_3 := Lib.hid hh0
  have lt0 := heap_lt hh0
  have c0_0 : w3.cell? ⟨w.heap.size, 0, none⟩ = some (.string sc) := by rw [Lib.cell_of_heap hh0]; rfl
  have c0_1 : w3.cell? ⟨w.heap.size, 1, none⟩ = some (.string us) := by rw [Lib.cell_of_heap hh0]; rfl
  have c0_2 : w3.cell? ⟨w.heap.size, 2, none⟩ = some (.string ho) := by rw [Lib.cell_of_heap hh0]; rfl
  have c0_3 : w3.cell? ⟨w.heap.size, 3, none⟩ = some (.string po) := by rw [Lib.cell_of_heap hh0]; rfl
  have c0_4 : w3.cell? ⟨w.heap.size, 4, none⟩ = some (.string pa) := by rw [Lib.cell_of_heap hh0]; rfl
  have c0_5 : w3.cell? ⟨w.heap.size, 5, none⟩ = some (.string qu) := by rw [Lib.cell_of_heap hh0]; rfl
  have c0_6 : w3.cell? ⟨w.heap.size, 6, none⟩ = some (.bool hu) := by rw [Lib.cell_of_heap hh0]; rfl
  have c0_7 : w3.cell? ⟨w.heap.size, 7, none⟩ = some (.bool hq) := by rw [Lib.cell_of_heap hh0]; rfl
  clear hh0
  have sz3 := hbw3.size
  have HW3 := Lib.hid hbw3
  go_wp2_with fail
  refine (HP.out _).mono ?_; rintro e w4 ⟨rfl, hb⟩
  have hbw4 : Below w.heap.size w w4 := (show Below w.heap.size w _ by first | exact HW3.out.trans ⟨rfl, rfl, rfl, Nat.le_refl _, fun _ _ => rfl⟩ | exact HW3.out | (go_grown; done)).trans (hb.mono (by first | omega | (simp; done) | (simp; omega)))
  clear hb lt0 c0_0 c0_1 c0_2 c0_3 c0_4 c0_5 c0_6 c0_7 hbw3
  have sz4 := hbw4.size
  have HW4 := Lib.hid hbw4
  go_wp2_with fail
  refine (HU.out _).mono ?_; rintro e w5 ⟨rfl, hb⟩
  have hh1 : w5.heap[w4.heap.size]? = some (.cells #[.string sc2, .string us2, .string ho2, .string po2, .string pa2, .string qu2, .bool hu2, .bool hq2] 23 (0, 0)) := (hb.block _ (by first | omega | (simp; done) | (simp; omega))).trans (heap_new _ _ _ (by first | rfl | simp))
  have hbw5 : Below w.heap.size w w5 := (show Below w.heap.size w _ by first | exact HW4.out.trans ⟨rfl, rfl, rfl, Nat.le_refl _, fun _ _ => rfl⟩ | exact HW4.out | (go_grown; done)).trans (hb.mono (by first | omega | (simp; done) | (simp; omega)))
  clear hb hbw4
  have HH1_5 := Lib.hid hh1
  have lt1 := heap_lt hh1
  have c1_0 : w5.cell? ⟨w4.heap.size, 0, none⟩ = some (.string sc2) := by rw [Lib.cell_of_heap hh1]; rfl
  have c1_1 : w5.cell? ⟨w4.heap.size, 1, none⟩ = some (.string us2) := by rw [Lib.cell_of_heap hh1]; rfl
  have c1_2 : w5.cell? ⟨w4.heap.size, 2, none⟩ = some (.string ho2) := by rw [Lib.cell_of_heap hh1]; rfl
  have c1_3 : w5.cell? ⟨w4.heap.size, 3, none⟩ = some (.string po2) := by rw [Lib.cell_of_heap hh1]; rfl
  have c1_4 : w5.cell? ⟨w4.heap.size, 4, none⟩ = some (.string pa2) := by rw [Lib.cell_of_heap hh1]; rfl
  have c1_5 : w5.cell? ⟨w4.heap.size, 5, none⟩ = some (.string qu2) := by rw [Lib.cell_of_heap hh1]; rfl
  have c1_6 : w5.cell? ⟨w4.heap.size, 6, none⟩ = some (.bool hu2) := by rw [Lib.cell_of_heap hh1]; rfl
  have c1_7 : w5.cell? ⟨w4.heap.size, 7, none⟩ = some (.bool hq2) := by rw [Lib.cell_of_heap hh1]; rfl
  clear hh1
  have sz5 := hbw5.size
  have HW5 := Lib.hid hbw5
  go_wp2_with fail
  go_ret
  exact ⟨rfl, HW5.out⟩
set_option maxRecDepth 100000 in
set_option maxHeartbeats 4000000 in
theorem back_01 (sc us ho po pa qu s : ByteArray) (hu hq : Bool) (g0 : sc.size ≤ 1000) (g1 : us.size ≤ 1000) (g2 : ho.size ≤ 1000) (g3 : po.size ≤ 1000) (g4 : pa.size ≤ 1000) (g5 : qu.size ≤ 1000) (g6 : s.size ≤ 3000) (t u sc2 us2 ho2 po2 pa2 qu2 : ByteArray) (hu2 hq2 : Bool)
    (HT : Hid (Does 6 #[.agg #[.string sc, .string us, .string ho, .string po, .string pa, .string qu, .bool hu, .bool hq]] (.tuple #[.string t, .int .i64 0]))) (HTE : Hid (∀ w, Calls Tryd.prog 10 #[.string t, .agg #[.string sc, .string us, .string ho, .string po, .string pa, .string qu, .bool hu, .bool hq]] w fun e w' => e = .returned (.bool true) ∧ Below w.heap.size w w'))
    (HP : Hid (Does 13 #[.string s] (.tuple #[.agg #[.string sc2, .string us2, .string ho2, .string po2, .string pa2, .string qu2, .bool hu2, .bool hq2], .int .i64 150]))) (HU : Hid (Does 6 #[.agg #[.string sc2, .string us2, .string ho2, .string po2, .string pa2, .string qu2, .bool hu2, .bool hq2]] (.tuple #[.string u, .int .i64 150]))) (s1 : ¬ s.toList = []) (s2 : s.toList.isEmpty = false) (w : World) :
    Calls Tryd.prog 5 #[.agg #[.string sc, .string us, .string ho, .string po, .string pa, .string qu, .bool hu, .bool hq], .string s] w fun e w' => e = .returned (.bool true) ∧ Below w.heap.size w w' := by
  have AL := Lib.hid (fun w => alive_any w)
  go_enter Tryd.func5, Tryd.ntmps5
  go_wp2_with fail
  refine (AL.out _).mono ?_; rintro e w1 ⟨rfl, hb⟩
  have hh0 : w1.heap[w.heap.size]? = some (.cells #[.string sc, .string us, .string ho, .string po, .string pa, .string qu, .bool hu, .bool hq] 23 (0, 0)) := (hb.block _ (by first | omega | (simp; done) | (simp; omega))).trans (heap_new _ _ _ (by first | rfl | simp))
  have hbw1 : Below w.heap.size w w1 := (show Below w.heap.size w _ by first | exact Below.refl _ _ | (go_grown; done)).trans (hb.mono (by first | omega | (simp; done) | (simp; omega)))
  clear hb
  have HH0_1 := Lib.hid hh0
  have lt0 := heap_lt hh0
  have c0_0 : w1.cell? ⟨w.heap.size, 0, none⟩ = some (.string sc) := by rw [Lib.cell_of_heap hh0]; rfl
  have c0_1 : w1.cell? ⟨w.heap.size, 1, none⟩ = some (.string us) := by rw [Lib.cell_of_heap hh0]; rfl
  have c0_2 : w1.cell? ⟨w.heap.size, 2, none⟩ = some (.string ho) := by rw [Lib.cell_of_heap hh0]; rfl
  have c0_3 : w1.cell? ⟨w.heap.size, 3, none⟩ = some (.string po) := by rw [Lib.cell_of_heap hh0]; rfl
  have c0_4 : w1.cell? ⟨w.heap.size, 4, none⟩ = some (.string pa) := by rw [Lib.cell_of_heap hh0]; rfl
  have c0_5 : w1.cell? ⟨w.heap.size, 5, none⟩ = some (.string qu) := by rw [Lib.cell_of_heap hh0]; rfl
  have c0_6 : w1.cell? ⟨w.heap.size, 6, none⟩ = some (.bool hu) := by rw [Lib.cell_of_heap hh0]; rfl
  have c0_7 : w1.cell? ⟨w.heap.size, 7, none⟩ = some (.bool hq) := by rw [Lib.cell_of_heap hh0]; rfl
  clear hh0
  have sz1 := hbw1.size
  have HW1 := Lib.hid hbw1
  go_wp2_with fail
  refine (HT.out _).mono ?_; rintro e w2 ⟨rfl, hb⟩
  have hv0 := HH0_1.out
  have hh0 : w2.heap[w.heap.size]? = some (.cells #[.string sc, .string us, .string ho, .string po, .string pa, .string qu, .bool hu, .bool hq] 23 (0, 0)) := (hb.block _ (heap_lt hv0)).trans hv0
  clear hv0
  have hbw2 : Below w.heap.size w w2 := (show Below w.heap.size w _ by first | exact HW1.out.trans ⟨rfl, rfl, rfl, Nat.le_refl _, fun _ _ => rfl⟩ | exact HW1.out | (go_grown; done)).trans (hb.mono (by first | omega | (simp; done) | (simp; omega)))
  clear hb lt0 c0_0 c0_1 c0_2 c0_3 c0_4 c0_5 c0_6 c0_7 hbw1
  have HH0_2 := Lib.hid hh0
  have lt0 := heap_lt hh0
  have c0_0 : w2.cell? ⟨w.heap.size, 0, none⟩ = some (.string sc) := by rw [Lib.cell_of_heap hh0]; rfl
  have c0_1 : w2.cell? ⟨w.heap.size, 1, none⟩ = some (.string us) := by rw [Lib.cell_of_heap hh0]; rfl
  have c0_2 : w2.cell? ⟨w.heap.size, 2, none⟩ = some (.string ho) := by rw [Lib.cell_of_heap hh0]; rfl
  have c0_3 : w2.cell? ⟨w.heap.size, 3, none⟩ = some (.string po) := by rw [Lib.cell_of_heap hh0]; rfl
  have c0_4 : w2.cell? ⟨w.heap.size, 4, none⟩ = some (.string pa) := by rw [Lib.cell_of_heap hh0]; rfl
  have c0_5 : w2.cell? ⟨w.heap.size, 5, none⟩ = some (.string qu) := by rw [Lib.cell_of_heap hh0]; rfl
  have c0_6 : w2.cell? ⟨w.heap.size, 6, none⟩ = some (.bool hu) := by rw [Lib.cell_of_heap hh0]; rfl
  have c0_7 : w2.cell? ⟨w.heap.size, 7, none⟩ = some (.bool hq) := by rw [Lib.cell_of_heap hh0]; rfl
  clear hh0
  have sz2 := hbw2.size
  have HW2 := Lib.hid hbw2
  go_wp2_with fail
  refine (HTE.out _).mono ?_; rintro e w3 ⟨rfl, hb⟩
  have hv0 := HH0_2.out
  have hh0 : w3.heap[w.heap.size]? = some (.cells #[.string sc, .string us, .string ho, .string po, .string pa, .string qu, .bool hu, .bool hq] 23 (0, 0)) := (hb.block _ (heap_lt hv0)).trans hv0
  clear hv0
  have hbw3 : Below w.heap.size w w3 := (show Below w.heap.size w _ by first | exact HW2.out.trans ⟨rfl, rfl, rfl, Nat.le_refl _, fun _ _ => rfl⟩ | exact HW2.out | (go_grown; done)).trans (hb.mono (by first | omega | (simp; done) | (simp; omega)))
  clear hb lt0 c0_0 c0_1 c0_2 c0_3 c0_4 c0_5 c0_6 c0_7 hbw2
  have HH0_3 := Lib.hid hh0
  have lt0 := heap_lt hh0
  have c0_0 : w3.cell? ⟨w.heap.size, 0, none⟩ = some (.string sc) := by rw [Lib.cell_of_heap hh0]; rfl
  have c0_1 : w3.cell? ⟨w.heap.size, 1, none⟩ = some (.string us) := by rw [Lib.cell_of_heap hh0]; rfl
  have c0_2 : w3.cell? ⟨w.heap.size, 2, none⟩ = some (.string ho) := by rw [Lib.cell_of_heap hh0]; rfl
  have c0_3 : w3.cell? ⟨w.heap.size, 3, none⟩ = some (.string po) := by rw [Lib.cell_of_heap hh0]; rfl
  have c0_4 : w3.cell? ⟨w.heap.size, 4, none⟩ = some (.string pa) := by rw [Lib.cell_of_heap hh0]; rfl
  have c0_5 : w3.cell? ⟨w.heap.size, 5, none⟩ = some (.string qu) := by rw [Lib.cell_of_heap hh0]; rfl
  have c0_6 : w3.cell? ⟨w.heap.size, 6, none⟩ = some (.bool hu) := by rw [Lib.cell_of_heap hh0]; rfl
  have c0_7 : w3.cell? ⟨w.heap.size, 7, none⟩ = some (.bool hq) := by rw [Lib.cell_of_heap hh0]; rfl
  clear hh0
  have sz3 := hbw3.size
  have HW3 := Lib.hid hbw3
  go_wp2_with fail
  refine (HP.out _).mono ?_; rintro e w4 ⟨rfl, hb⟩
  have hbw4 : Below w.heap.size w w4 := (show Below w.heap.size w _ by first | exact HW3.out.trans ⟨rfl, rfl, rfl, Nat.le_refl _, fun _ _ => rfl⟩ | exact HW3.out | (go_grown; done)).trans (hb.mono (by first | omega | (simp; done) | (simp; omega)))
  clear hb lt0 c0_0 c0_1 c0_2 c0_3 c0_4 c0_5 c0_6 c0_7 hbw3
  have sz4 := hbw4.size
  have HW4 := Lib.hid hbw4
  go_wp2_with fail
  refine (HU.out _).mono ?_; rintro e w5 ⟨rfl, hb⟩
  have hh1 : w5.heap[w4.heap.size]? = some (.cells #[.string sc2, .string us2, .string ho2, .string po2, .string pa2, .string qu2, .bool hu2, .bool hq2] 23 (0, 0)) := (hb.block _ (by first | omega | (simp; done) | (simp; omega))).trans (heap_new _ _ _ (by first | rfl | simp))
  have hbw5 : Below w.heap.size w w5 := (show Below w.heap.size w _ by first | exact HW4.out.trans ⟨rfl, rfl, rfl, Nat.le_refl _, fun _ _ => rfl⟩ | exact HW4.out | (go_grown; done)).trans (hb.mono (by first | omega | (simp; done) | (simp; omega)))
  clear hb hbw4
  have HH1_5 := Lib.hid hh1
  have lt1 := heap_lt hh1
  have c1_0 : w5.cell? ⟨w4.heap.size, 0, none⟩ = some (.string sc2) := by rw [Lib.cell_of_heap hh1]; rfl
  have c1_1 : w5.cell? ⟨w4.heap.size, 1, none⟩ = some (.string us2) := by rw [Lib.cell_of_heap hh1]; rfl
  have c1_2 : w5.cell? ⟨w4.heap.size, 2, none⟩ = some (.string ho2) := by rw [Lib.cell_of_heap hh1]; rfl
  have c1_3 : w5.cell? ⟨w4.heap.size, 3, none⟩ = some (.string po2) := by rw [Lib.cell_of_heap hh1]; rfl
  have c1_4 : w5.cell? ⟨w4.heap.size, 4, none⟩ = some (.string pa2) := by rw [Lib.cell_of_heap hh1]; rfl
  have c1_5 : w5.cell? ⟨w4.heap.size, 5, none⟩ = some (.string qu2) := by rw [Lib.cell_of_heap hh1]; rfl
  have c1_6 : w5.cell? ⟨w4.heap.size, 6, none⟩ = some (.bool hu2) := by rw [Lib.cell_of_heap hh1]; rfl
  have c1_7 : w5.cell? ⟨w4.heap.size, 7, none⟩ = some (.bool hq2) := by rw [Lib.cell_of_heap hh1]; rfl
  clear hh1
  have sz5 := hbw5.size
  have HW5 := Lib.hid hbw5
  go_wp2_with fail
  go_ret
  exact ⟨rfl, HW5.out⟩
set_option maxRecDepth 100000 in
set_option maxHeartbeats 4000000 in
theorem back_02 (sc us ho po pa qu s : ByteArray) (hu hq : Bool) (g0 : sc.size ≤ 1000) (g1 : us.size ≤ 1000) (g2 : ho.size ≤ 1000) (g3 : po.size ≤ 1000) (g4 : pa.size ≤ 1000) (g5 : qu.size ≤ 1000) (g6 : s.size ≤ 3000) (t u sc2 us2 ho2 po2 pa2 qu2 : ByteArray) (hu2 hq2 : Bool)
    (HT : Hid (Does 6 #[.agg #[.string sc, .string us, .string ho, .string po, .string pa, .string qu, .bool hu, .bool hq]] (.tuple #[.string t, .int .i64 0]))) (HTE : Hid (∀ w, Calls Tryd.prog 10 #[.string t, .agg #[.string sc, .string us, .string ho, .string po, .string pa, .string qu, .bool hu, .bool hq]] w fun e w' => e = .returned (.bool true) ∧ Below w.heap.size w w'))
    (HP : Hid (Does 13 #[.string s] (.tuple #[.agg #[.string sc2, .string us2, .string ho2, .string po2, .string pa2, .string qu2, .bool hu2, .bool hq2], .int .i64 0]))) (HU : Hid (Does 6 #[.agg #[.string sc2, .string us2, .string ho2, .string po2, .string pa2, .string qu2, .bool hu2, .bool hq2]] (.tuple #[.string s, .int .i64 0])))  (w : World) :
    Calls Tryd.prog 5 #[.agg #[.string sc, .string us, .string ho, .string po, .string pa, .string qu, .bool hu, .bool hq], .string s] w fun e w' => e = .returned (.bool true) ∧ Below w.heap.size w w' := by
  have AL := Lib.hid (fun w => alive_any w)
  go_enter Tryd.func5, Tryd.ntmps5
  go_wp2_with fail
  refine (AL.out _).mono ?_; rintro e w1 ⟨rfl, hb⟩
  have hh0 : w1.heap[w.heap.size]? = some (.cells #[.string sc, .string us, .string ho, .string po, .string pa, .string qu, .bool hu, .bool hq] 23 (0, 0)) := (hb.block _ (by first | omega | (simp; done) | (simp; omega))).trans (heap_new _ _ _ (by first | rfl | simp))
  have hbw1 : Below w.heap.size w w1 := (show Below w.heap.size w _ by first | exact Below.refl _ _ | (go_grown; done)).trans (hb.mono (by first | omega | (simp; done) | (simp; omega)))
  clear hb
  have HH0_1 := Lib.hid hh0
  have lt0 := heap_lt hh0
  have c0_0 : w1.cell? ⟨w.heap.size, 0, none⟩ = some (.string sc) := by rw [Lib.cell_of_heap hh0]; rfl
  have c0_1 : w1.cell? ⟨w.heap.size, 1, none⟩ = some (.string us) := by rw [Lib.cell_of_heap hh0]; rfl
  have c0_2 : w1.cell? ⟨w.heap.size, 2, none⟩ = some (.string ho) := by rw [Lib.cell_of_heap hh0]; rfl
  have c0_3 : w1.cell? ⟨w.heap.size, 3, none⟩ = some (.string po) := by rw [Lib.cell_of_heap hh0]; rfl
  have c0_4 : w1.cell? ⟨w.heap.size, 4, none⟩ = some (.string pa) := by rw [Lib.cell_of_heap hh0]; rfl
  have c0_5 : w1.cell? ⟨w.heap.size, 5, none⟩ = some (.string qu) := by rw [Lib.cell_of_heap hh0]; rfl
  have c0_6 : w1.cell? ⟨w.heap.size, 6, none⟩ = some (.bool hu) := by rw [Lib.cell_of_heap hh0]; rfl
  have c0_7 : w1.cell? ⟨w.heap.size, 7, none⟩ = some (.bool hq) := by rw [Lib.cell_of_heap hh0]; rfl
  clear hh0
  have sz1 := hbw1.size
  have HW1 := Lib.hid hbw1
  go_wp2_with fail
  refine (HT.out _).mono ?_; rintro e w2 ⟨rfl, hb⟩
  have hv0 := HH0_1.out
  have hh0 : w2.heap[w.heap.size]? = some (.cells #[.string sc, .string us, .string ho, .string po, .string pa, .string qu, .bool hu, .bool hq] 23 (0, 0)) := (hb.block _ (heap_lt hv0)).trans hv0
  clear hv0
  have hbw2 : Below w.heap.size w w2 := (show Below w.heap.size w _ by first | exact HW1.out.trans ⟨rfl, rfl, rfl, Nat.le_refl _, fun _ _ => rfl⟩ | exact HW1.out | (go_grown; done)).trans (hb.mono (by first | omega | (simp; done) | (simp; omega)))
  clear hb lt0 c0_0 c0_1 c0_2 c0_3 c0_4 c0_5 c0_6 c0_7 hbw1
  have HH0_2 := Lib.hid hh0
  have lt0 := heap_lt hh0
  have c0_0 : w2.cell? ⟨w.heap.size, 0, none⟩ = some (.string sc) := by rw [Lib.cell_of_heap hh0]; rfl
  have c0_1 : w2.cell? ⟨w.heap.size, 1, none⟩ = some (.string us) := by rw [Lib.cell_of_heap hh0]; rfl
  have c0_2 : w2.cell? ⟨w.heap.size, 2, none⟩ = some (.string ho) := by rw [Lib.cell_of_heap hh0]; rfl
  have c0_3 : w2.cell? ⟨w.heap.size, 3, none⟩ = some (.string po) := by rw [Lib.cell_of_heap hh0]; rfl
  have c0_4 : w2.cell? ⟨w.heap.size, 4, none⟩ = some (.string pa) := by rw [Lib.cell_of_heap hh0]; rfl
  have c0_5 : w2.cell? ⟨w.heap.size, 5, none⟩ = some (.string qu) := by rw [Lib.cell_of_heap hh0]; rfl
  have c0_6 : w2.cell? ⟨w.heap.size, 6, none⟩ = some (.bool hu) := by rw [Lib.cell_of_heap hh0]; rfl
  have c0_7 : w2.cell? ⟨w.heap.size, 7, none⟩ = some (.bool hq) := by rw [Lib.cell_of_heap hh0]; rfl
  clear hh0
  have sz2 := hbw2.size
  have HW2 := Lib.hid hbw2
  go_wp2_with fail
  refine (HTE.out _).mono ?_; rintro e w3 ⟨rfl, hb⟩
  have hv0 := HH0_2.out
  have hh0 : w3.heap[w.heap.size]? = some (.cells #[.string sc, .string us, .string ho, .string po, .string pa, .string qu, .bool hu, .bool hq] 23 (0, 0)) := (hb.block _ (heap_lt hv0)).trans hv0
  clear hv0
  have hbw3 : Below w.heap.size w w3 := (show Below w.heap.size w _ by first | exact HW2.out.trans ⟨rfl, rfl, rfl, Nat.le_refl _, fun _ _ => rfl⟩ | exact HW2.out | (go_grown; done)).trans (hb.mono (by first | omega | (simp; done) | (simp; omega)))
  clear hb lt0 c0_0 c0_1 c0_2 c0_3 c0_4 c0_5 c0_6 c0_7 hbw2
  have HH0_3 := Lib.hid hh0
  have lt0 := heap_lt hh0
  have c0_0 : w3.cell? ⟨w.heap.size, 0, none⟩ = some (.string sc) := by rw [Lib.cell_of_heap hh0]; rfl
  have c0_1 : w3.cell? ⟨w.heap.size, 1, none⟩ = some (.string us) := by rw [Lib.cell_of_heap hh0]; rfl
  have c0_2 : w3.cell? ⟨w.heap.size, 2, none⟩ = some (.string ho) := by rw [Lib.cell_of_heap hh0]; rfl
  have c0_3 : w3.cell? ⟨w.heap.size, 3, none⟩ = some (.string po) := by rw [Lib.cell_of_heap hh0]; rfl
  have c0_4 : w3.cell? ⟨w.heap.size, 4, none⟩ = some (.string pa) := by rw [Lib.cell_of_heap hh0]; rfl
  have c0_5 : w3.cell? ⟨w.heap.size, 5, none⟩ = some (.string qu) := by rw [Lib.cell_of_heap hh0]; rfl
  have c0_6 : w3.cell? ⟨w.heap.size, 6, none⟩ = some (.bool hu) := by rw [Lib.cell_of_heap hh0]; rfl
  have c0_7 : w3.cell? ⟨w.heap.size, 7, none⟩ = some (.bool hq) := by rw [Lib.cell_of_heap hh0]; rfl
  clear hh0
  have sz3 := hbw3.size
  have HW3 := Lib.hid hbw3
  go_wp2_with fail
  refine (HP.out _).mono ?_; rintro e w4 ⟨rfl, hb⟩
  have hbw4 : Below w.heap.size w w4 := (show Below w.heap.size w _ by first | exact HW3.out.trans ⟨rfl, rfl, rfl, Nat.le_refl _, fun _ _ => rfl⟩ | exact HW3.out | (go_grown; done)).trans (hb.mono (by first | omega | (simp; done) | (simp; omega)))
  clear hb lt0 c0_0 c0_1 c0_2 c0_3 c0_4 c0_5 c0_6 c0_7 hbw3
  have sz4 := hbw4.size
  have HW4 := Lib.hid hbw4
  go_wp2_with fail
  refine (HU.out _).mono ?_; rintro e w5 ⟨rfl, hb⟩
  have hh1 : w5.heap[w4.heap.size]? = some (.cells #[.string sc2, .string us2, .string ho2, .string po2, .string pa2, .string qu2, .bool hu2, .bool hq2] 23 (0, 0)) := (hb.block _ (by first | omega | (simp; done) | (simp; omega))).trans (heap_new _ _ _ (by first | rfl | simp))
  have hbw5 : Below w.heap.size w w5 := (show Below w.heap.size w _ by first | exact HW4.out.trans ⟨rfl, rfl, rfl, Nat.le_refl _, fun _ _ => rfl⟩ | exact HW4.out | (go_grown; done)).trans (hb.mono (by first | omega | (simp; done) | (simp; omega)))
  clear hb hbw4
  have HH1_5 := Lib.hid hh1
  have lt1 := heap_lt hh1
  have c1_0 : w5.cell? ⟨w4.heap.size, 0, none⟩ = some (.string sc2) := by rw [Lib.cell_of_heap hh1]; rfl
  have c1_1 : w5.cell? ⟨w4.heap.size, 1, none⟩ = some (.string us2) := by rw [Lib.cell_of_heap hh1]; rfl
  have c1_2 : w5.cell? ⟨w4.heap.size, 2, none⟩ = some (.string ho2) := by rw [Lib.cell_of_heap hh1]; rfl
  have c1_3 : w5.cell? ⟨w4.heap.size, 3, none⟩ = some (.string po2) := by rw [Lib.cell_of_heap hh1]; rfl
  have c1_4 : w5.cell? ⟨w4.heap.size, 4, none⟩ = some (.string pa2) := by rw [Lib.cell_of_heap hh1]; rfl
  have c1_5 : w5.cell? ⟨w4.heap.size, 5, none⟩ = some (.string qu2) := by rw [Lib.cell_of_heap hh1]; rfl
  have c1_6 : w5.cell? ⟨w4.heap.size, 6, none⟩ = some (.bool hu2) := by rw [Lib.cell_of_heap hh1]; rfl
  have c1_7 : w5.cell? ⟨w4.heap.size, 7, none⟩ = some (.bool hq2) := by rw [Lib.cell_of_heap hh1]; rfl
  clear hh1
  have sz5 := hbw5.size
  have HW5 := Lib.hid hbw5
  go_wp2_with fail
  go_ret
  exact ⟨rfl, HW5.out⟩
set_option maxRecDepth 100000 in
set_option maxHeartbeats 4000000 in
theorem back_03 (sc us ho po pa qu s : ByteArray) (hu hq : Bool) (g0 : sc.size ≤ 1000) (g1 : us.size ≤ 1000) (g2 : ho.size ≤ 1000) (g3 : po.size ≤ 1000) (g4 : pa.size ≤ 1000) (g5 : qu.size ≤ 1000) (g6 : s.size ≤ 3000) (t u sc2 us2 ho2 po2 pa2 qu2 : ByteArray) (hu2 hq2 : Bool)
    (HT : Hid (Does 6 #[.agg #[.string sc, .string us, .string ho, .string po, .string pa, .string qu, .bool hu, .bool hq]] (.tuple #[.string t, .int .i64 0]))) (HTE : Hid (∀ w, Calls Tryd.prog 10 #[.string t, .agg #[.string sc, .string us, .string ho, .string po, .string pa, .string qu, .bool hu, .bool hq]] w fun e w' => e = .returned (.bool true) ∧ Below w.heap.size w w'))
    (HP : Hid (Does 13 #[.string s] (.tuple #[.agg #[.string sc2, .string us2, .string ho2, .string ⟨#[]⟩, .string pa2, .string qu2, .bool hu2, .bool hq2], .int .i64 0]))) (HU : Hid (Does 6 #[.agg #[.string sc2, .string us2, .string ho2, .string ⟨#[]⟩, .string pa2, .string qu2, .bool hu2, .bool hq2]] (.tuple #[.string u, .int .i64 0]))) (hne : (u.toList == s.toList) = false) (hlen : (u.size : Int) = (s.size : Int) - 1) (HTU : Hid (∀ w, Calls Tryd.prog 10 #[.string u, .agg #[.string sc2, .string us2, .string ho2, .string ⟨#[]⟩, .string pa2, .string qu2, .bool hu2, .bool hq2]] w fun e w' => e = .returned (.bool true) ∧ Below w.heap.size w w')) (w : World) :
    Calls Tryd.prog 5 #[.agg #[.string sc, .string us, .string ho, .string po, .string pa, .string qu, .bool hu, .bool hq], .string s] w fun e w' => e = .returned (.bool true) ∧ Below w.heap.size w w' := by
  have AL := Lib.hid (fun w => alive_any w)
  go_enter Tryd.func5, Tryd.ntmps5
  go_wp2_with fail
  refine (AL.out _).mono ?_; rintro e w1 ⟨rfl, hb⟩
  have hh0 : w1.heap[w.heap.size]? = some (.cells #[.string sc, .string us, .string ho, .string po, .string pa, .string qu, .bool hu, .bool hq] 23 (0, 0)) := (hb.block _ (by first | omega | (simp; done) | (simp; omega))).trans (heap_new _ _ _ (by first | rfl | simp))
  have hbw1 : Below w.heap.size w w1 := (show Below w.heap.size w _ by first | exact Below.refl _ _ | (go_grown; done)).trans (hb.mono (by first | omega | (simp; done) | (simp; omega)))
  clear hb
  have HH0_1 := Lib.hid hh0
  have lt0 := heap_lt hh0
  have c0_0 : w1.cell? ⟨w.heap.size, 0, none⟩ = some (.string sc) := by rw [Lib.cell_of_heap hh0]; rfl
  have c0_1 : w1.cell? ⟨w.heap.size, 1, none⟩ = some (.string us) := by rw [Lib.cell_of_heap hh0]; rfl
  have c0_2 : w1.cell? ⟨w.heap.size, 2, none⟩ = some (.string ho) := by rw [Lib.cell_of_heap hh0]; rfl
  have c0_3 : w1.cell? ⟨w.heap.size, 3, none⟩ = some (.string po) := by rw [Lib.cell_of_heap hh0]; rfl
  have c0_4 : w1.cell? ⟨w.heap.size, 4, none⟩ = some (.string pa) := by rw [Lib.cell_of_heap hh0]; rfl
  have c0_5 : w1.cell? ⟨w.heap.size, 5, none⟩ = some (.string qu) := by rw [Lib.cell_of_heap hh0]; rfl
  have c0_6 : w1.cell? ⟨w.heap.size, 6, none⟩ = some (.bool hu) := by rw [Lib.cell_of_heap hh0]; rfl
  have c0_7 : w1.cell? ⟨w.heap.size, 7, none⟩ = some (.bool hq) := by rw [Lib.cell_of_heap hh0]; rfl
  clear hh0
  have sz1 := hbw1.size
  have HW1 := Lib.hid hbw1
  go_wp2_with fail
  refine (HT.out _).mono ?_; rintro e w2 ⟨rfl, hb⟩
  have hv0 := HH0_1.out
  have hh0 : w2.heap[w.heap.size]? = some (.cells #[.string sc, .string us, .string ho, .string po, .string pa, .string qu, .bool hu, .bool hq] 23 (0, 0)) := (hb.block _ (heap_lt hv0)).trans hv0
  clear hv0
  have hbw2 : Below w.heap.size w w2 := (show Below w.heap.size w _ by first | exact HW1.out.trans ⟨rfl, rfl, rfl, Nat.le_refl _, fun _ _ => rfl⟩ | exact HW1.out | (go_grown; done)).trans (hb.mono (by first | omega | (simp; done) | (simp; omega)))
  clear hb lt0 c0_0 c0_1 c0_2 c0_3 c0_4 c0_5 c0_6 c0_7 hbw1
  have HH0_2 := Lib.hid hh0
  have lt0 := heap_lt hh0
  have c0_0 : w2.cell? ⟨w.heap.size, 0, none⟩ = some (.string sc) := by rw [Lib.cell_of_heap hh0]; rfl
  have c0_1 : w2.cell? ⟨w.heap.size, 1, none⟩ = some (.string us) := by rw [Lib.cell_of_heap hh0]; rfl
  have c0_2 : w2.cell? ⟨w.heap.size, 2, none⟩ = some (.string ho) := by rw [Lib.cell_of_heap hh0]; rfl
  have c0_3 : w2.cell? ⟨w.heap.size, 3, none⟩ = some (.string po) := by rw [Lib.cell_of_heap hh0]; rfl
  have c0_4 : w2.cell? ⟨w.heap.size, 4, none⟩ = some (.string pa) := by rw [Lib.cell_of_heap hh0]; rfl
  have c0_5 : w2.cell? ⟨w.heap.size, 5, none⟩ = some (.string qu) := by rw [Lib.cell_of_heap hh0]; rfl
  have c0_6 : w2.cell? ⟨w.heap.size, 6, none⟩ = some (.bool hu) := by rw [Lib.cell_of_heap hh0]; rfl
  have c0_7 : w2.cell? ⟨w.heap.size, 7, none⟩ = some (.bool hq) := by rw [Lib.cell_of_heap hh0]; rfl
  clear hh0
  have sz2 := hbw2.size
  have HW2 := Lib.hid hbw2
  go_wp2_with fail
  refine (HTE.out _).mono ?_; rintro e w3 ⟨rfl, hb⟩
  have hv0 := HH0_2.out
  have hh0 : w3.heap[w.heap.size]? = some (.cells #[.string sc, .string us, .string ho, .string po, .string pa, .string qu, .bool hu, .bool hq] 23 (0, 0)) := (hb.block _ (heap_lt hv0)).trans hv0
  clear hv0
  have hbw3 : Below w.heap.size w w3 := (show Below w.heap.size w _ by first | exact HW2.out.trans ⟨rfl, rfl, rfl, Nat.le_refl _, fun _ _ => rfl⟩ | exact HW2.out | (go_grown; done)).trans (hb.mono (by first | omega | (simp; done) | (simp; omega)))
  clear hb lt0 c0_0 c0_1 c0_2 c0_3 c0_4 c0_5 c0_6 c0_7 hbw2
  have HH0_3 := Lib.hid hh0
  have lt0 := heap_lt hh0
  have c0_0 : w3.cell? ⟨w.heap.size, 0, none⟩ = some (.string sc) := by rw [Lib.cell_of_heap hh0]; rfl
  have c0_1 : w3.cell? ⟨w.heap.size, 1, none⟩ = some (.string us) := by rw [Lib.cell_of_heap hh0]; rfl
  have c0_2 : w3.cell? ⟨w.heap.size, 2, none⟩ = some (.string ho) := by rw [Lib.cell_of_heap hh0]; rfl
  have c0_3 : w3.cell? ⟨w.heap.size, 3, none⟩ = some (.string po) := by rw [Lib.cell_of_heap hh0]; rfl
  have c0_4 : w3.cell? ⟨w.heap.size, 4, none⟩ = some (.string pa) := by rw [Lib.cell_of_heap hh0]; rfl
  have c0_5 : w3.cell? ⟨w.heap.size, 5, none⟩ = some (.string qu) := by rw [Lib.cell_of_heap hh0]; rfl
  have c0_6 : w3.cell? ⟨w.heap.size, 6, none⟩ = some (.bool hu) := by rw [Lib.cell_of_heap hh0]; rfl
  have c0_7 : w3.cell? ⟨w.heap.size, 7, none⟩ = some (.bool hq) := by rw [Lib.cell_of_heap hh0]; rfl
  clear hh0
  have sz3 := hbw3.size
  have HW3 := Lib.hid hbw3
  go_wp2_with fail
  refine (HP.out _).mono ?_; rintro e w4 ⟨rfl, hb⟩
  have hbw4 : Below w.heap.size w w4 := (show Below w.heap.size w _ by first | exact HW3.out.trans ⟨rfl, rfl, rfl, Nat.le_refl _, fun _ _ => rfl⟩ | exact HW3.out | (go_grown; done)).trans (hb.mono (by first | omega | (simp; done) | (simp; omega)))
  clear hb lt0 c0_0 c0_1 c0_2 c0_3 c0_4 c0_5 c0_6 c0_7 hbw3
  have sz4 := hbw4.size
  have HW4 := Lib.hid hbw4
  go_wp2_with fail
  refine (HU.out _).mono ?_; rintro e w5 ⟨rfl, hb⟩
  have hh1 : w5.heap[w4.heap.size]? = some (.cells #[.string sc2, .string us2, .string ho2, .string ⟨#[]⟩, .string pa2, .string qu2, .bool hu2, .bool hq2] 23 (0, 0)) := (hb.block _ (by first | omega | (simp; done) | (simp; omega))).trans (heap_new _ _ _ (by first | rfl | simp))
  have hbw5 : Below w.heap.size w w5 := (show Below w.heap.size w _ by first | exact HW4.out.trans ⟨rfl, rfl, rfl, Nat.le_refl _, fun _ _ => rfl⟩ | exact HW4.out | (go_grown; done)).trans (hb.mono (by first | omega | (simp; done) | (simp; omega)))
  clear hb hbw4
  have HH1_5 := Lib.hid hh1
  have lt1 := heap_lt hh1
  have c1_0 : w5.cell? ⟨w4.heap.size, 0, none⟩ = some (.string sc2) := by rw [Lib.cell_of_heap hh1]; rfl
  have c1_1 : w5.cell? ⟨w4.heap.size, 1, none⟩ = some (.string us2) := by rw [Lib.cell_of_heap hh1]; rfl
  have c1_2 : w5.cell? ⟨w4.heap.size, 2, none⟩ = some (.string ho2) := by rw [Lib.cell_of_heap hh1]; rfl
  have c1_3 : w5.cell? ⟨w4.heap.size, 3, none⟩ = some (.string ⟨#[]⟩) := by rw [Lib.cell_of_heap hh1]; rfl
  have c1_4 : w5.cell? ⟨w4.heap.size, 4, none⟩ = some (.string pa2) := by rw [Lib.cell_of_heap hh1]; rfl
  have c1_5 : w5.cell? ⟨w4.heap.size, 5, none⟩ = some (.string qu2) := by rw [Lib.cell_of_heap hh1]; rfl
  have c1_6 : w5.cell? ⟨w4.heap.size, 6, none⟩ = some (.bool hu2) := by rw [Lib.cell_of_heap hh1]; rfl
  have c1_7 : w5.cell? ⟨w4.heap.size, 7, none⟩ = some (.bool hq2) := by rw [Lib.cell_of_heap hh1]; rfl
  clear hh1
  have sz5 := hbw5.size
  have HW5 := Lib.hid hbw5
  go_wp2_with fail
  refine (HTU.out _).mono ?_; rintro e w6 ⟨rfl, hb⟩
  have hv1 := HH1_5.out
  have hh1 : w6.heap[w4.heap.size]? = some (.cells #[.string sc2, .string us2, .string ho2, .string ⟨#[]⟩, .string pa2, .string qu2, .bool hu2, .bool hq2] 23 (0, 0)) := (hb.block _ (heap_lt hv1)).trans hv1
  clear hv1
  have hbw6 : Below w.heap.size w w6 := (show Below w.heap.size w _ by first | exact HW5.out.trans ⟨rfl, rfl, rfl, Nat.le_refl _, fun _ _ => rfl⟩ | exact HW5.out | (go_grown; done)).trans (hb.mono (by first | omega | (simp; done) | (simp; omega)))
  clear hb lt1 c1_0 c1_1 c1_2 c1_3 c1_4 c1_5 c1_6 c1_7 hbw5
  have HH1_6 := Lib.hid hh1
  have lt1 := heap_lt hh1
  have c1_0 : w6.cell? ⟨w4.heap.size, 0, none⟩ = some (.string sc2) := by rw [Lib.cell_of_heap hh1]; rfl
  have c1_1 : w6.cell? ⟨w4.heap.size, 1, none⟩ = some (.string us2) := by rw [Lib.cell_of_heap hh1]; rfl
  have c1_2 : w6.cell? ⟨w4.heap.size, 2, none⟩ = some (.string ho2) := by rw [Lib.cell_of_heap hh1]; rfl
  have c1_3 : w6.cell? ⟨w4.heap.size, 3, none⟩ = some (.string ⟨#[]⟩) := by rw [Lib.cell_of_heap hh1]; rfl
  have c1_4 : w6.cell? ⟨w4.heap.size, 4, none⟩ = some (.string pa2) := by rw [Lib.cell_of_heap hh1]; rfl
  have c1_5 : w6.cell? ⟨w4.heap.size, 5, none⟩ = some (.string qu2) := by rw [Lib.cell_of_heap hh1]; rfl
  have c1_6 : w6.cell? ⟨w4.heap.size, 6, none⟩ = some (.bool hu2) := by rw [Lib.cell_of_heap hh1]; rfl
  have c1_7 : w6.cell? ⟨w4.heap.size, 7, none⟩ = some (.bool hq2) := by rw [Lib.cell_of_heap hh1]; rfl
  clear hh1
  have sz6 := hbw6.size
  have HW6 := Lib.hid hbw6
  go_wp2_with fail
  go_ret
  exact ⟨rfl, HW6.out⟩
end Go.Proofs.YtcocjmbhbddgiaaDoor
