/- The walks through the reference's Plain and Canon (provostref15). -/
import Derived.Test.YtcocjmbhbddgiaaGreatDoorBn
import Derived.Test.YtcocjmbhbddgiaaGreatDoorBo
import Derived.Test.YtcocjmbhbddgiaaGreatDoorBf
set_option linter.unusedSimpArgs false
set_option linter.unusedVariables false
namespace Go.Proofs.YtcocjmbhbddgiaaGreatDoor
open Go.RowKit
set_option maxRecDepth 100000 in
set_option maxHeartbeats 2000000 in
theorem rPlain_go (sc us ho po pa qu sc2 us2 ho2 pa2 qu2 : ByteArray) (hu hq : Bool) (H1 : Hid (Does 49 #[.string sc, .bool true] (.string sc2))) (H2 : Hid (Does 49 #[.string us, .bool false] (.string us2))) (H3 : Hid (Does 49 #[.string ho, .bool true] (.string ho2))) (H4 : Hid (Does 49 #[.string pa, .bool false] (.string pa2))) (H5 : Hid (Does 49 #[.string qu, .bool false] (.string qu2))) (w : World) :
    Calls Tryz.prog 23 #[.agg #[.string sc, .string us, .string ho, .string po, .string pa, .string qu, .bool hu, .bool hq]] w fun e w' => e = .returned (.agg #[.string sc2, .string us2, .string ho2, .string po, .string pa2, .string qu2, .bool hu, .bool hq]) ∧ Below w.heap.size w w' := by
  go_enter Tryz.func23, Tryz.ntmps23
  go_wp2_with fail
  refine (H1.out _).mono ?_; rintro e w1 ⟨rfl, hb⟩
  have hh0 : w1.heap[w.heap.size]? = some (.cells #[.string sc, .string us, .string ho, .string po, .string pa, .string qu, .bool hu, .bool hq] 23 (0, 0)) := (hb.block _ (by first | omega | (simp; done) | (simp; omega))).trans (heap_old (o' := (.cells #[.string ⟨#[]⟩, .string ⟨#[]⟩, .string ⟨#[]⟩, .string ⟨#[]⟩, .string ⟨#[]⟩, .string ⟨#[]⟩, .bool false, .bool false] 23 (0, 0))) (heap_new _ _ _ (by first | rfl | simp)))
  have hh1 : w1.heap[w.heap.size + 1]? = some (.cells #[.string ⟨#[]⟩, .string ⟨#[]⟩, .string ⟨#[]⟩, .string ⟨#[]⟩, .string ⟨#[]⟩, .string ⟨#[]⟩, .bool false, .bool false] 23 (0, 0)) := (hb.block _ (by first | omega | (simp; done) | (simp; omega))).trans (heap_new _ _ _ (by first | rfl | simp))
  have hbw1 : Below w.heap.size w w1 := (show Below w.heap.size w _ by first | exact Below.refl _ _ | (go_grown; done)).trans (hb.mono (by first | omega | (simp; done) | (simp; omega)))
  clear hb
  have HH0_1 := Lib.hid hh0
  have lt0 := heap_lt hh0
  have c0_0 : w1.cell? ⟨w.heap.size, 0, none⟩ = some (.string sc) := by rw [Lib.cell_of_heap hh0]; rfl
  have f0_0 : w1.frozen? ⟨w.heap.size, 0, none⟩ = false := Lib.frozen_of_heap hh0 0
  have c0_1 : w1.cell? ⟨w.heap.size, 1, none⟩ = some (.string us) := by rw [Lib.cell_of_heap hh0]; rfl
  have f0_1 : w1.frozen? ⟨w.heap.size, 1, none⟩ = false := Lib.frozen_of_heap hh0 1
  have c0_2 : w1.cell? ⟨w.heap.size, 2, none⟩ = some (.string ho) := by rw [Lib.cell_of_heap hh0]; rfl
  have f0_2 : w1.frozen? ⟨w.heap.size, 2, none⟩ = false := Lib.frozen_of_heap hh0 2
  have c0_3 : w1.cell? ⟨w.heap.size, 3, none⟩ = some (.string po) := by rw [Lib.cell_of_heap hh0]; rfl
  have f0_3 : w1.frozen? ⟨w.heap.size, 3, none⟩ = false := Lib.frozen_of_heap hh0 3
  have c0_4 : w1.cell? ⟨w.heap.size, 4, none⟩ = some (.string pa) := by rw [Lib.cell_of_heap hh0]; rfl
  have f0_4 : w1.frozen? ⟨w.heap.size, 4, none⟩ = false := Lib.frozen_of_heap hh0 4
  have c0_5 : w1.cell? ⟨w.heap.size, 5, none⟩ = some (.string qu) := by rw [Lib.cell_of_heap hh0]; rfl
  have f0_5 : w1.frozen? ⟨w.heap.size, 5, none⟩ = false := Lib.frozen_of_heap hh0 5
  have c0_6 : w1.cell? ⟨w.heap.size, 6, none⟩ = some (.bool hu) := by rw [Lib.cell_of_heap hh0]; rfl
  have f0_6 : w1.frozen? ⟨w.heap.size, 6, none⟩ = false := Lib.frozen_of_heap hh0 6
  have c0_7 : w1.cell? ⟨w.heap.size, 7, none⟩ = some (.bool hq) := by rw [Lib.cell_of_heap hh0]; rfl
  have f0_7 : w1.frozen? ⟨w.heap.size, 7, none⟩ = false := Lib.frozen_of_heap hh0 7
  clear hh0
  have HH1_1 := Lib.hid hh1
  have lt1 := heap_lt hh1
  have c1_0 : w1.cell? ⟨w.heap.size + 1, 0, none⟩ = some (.string ⟨#[]⟩) := by rw [Lib.cell_of_heap hh1]; rfl
  have f1_0 : w1.frozen? ⟨w.heap.size + 1, 0, none⟩ = false := Lib.frozen_of_heap hh1 0
  have c1_1 : w1.cell? ⟨w.heap.size + 1, 1, none⟩ = some (.string ⟨#[]⟩) := by rw [Lib.cell_of_heap hh1]; rfl
  have f1_1 : w1.frozen? ⟨w.heap.size + 1, 1, none⟩ = false := Lib.frozen_of_heap hh1 1
  have c1_2 : w1.cell? ⟨w.heap.size + 1, 2, none⟩ = some (.string ⟨#[]⟩) := by rw [Lib.cell_of_heap hh1]; rfl
  have f1_2 : w1.frozen? ⟨w.heap.size + 1, 2, none⟩ = false := Lib.frozen_of_heap hh1 2
  have c1_3 : w1.cell? ⟨w.heap.size + 1, 3, none⟩ = some (.string ⟨#[]⟩) := by rw [Lib.cell_of_heap hh1]; rfl
  have f1_3 : w1.frozen? ⟨w.heap.size + 1, 3, none⟩ = false := Lib.frozen_of_heap hh1 3
  have c1_4 : w1.cell? ⟨w.heap.size + 1, 4, none⟩ = some (.string ⟨#[]⟩) := by rw [Lib.cell_of_heap hh1]; rfl
  have f1_4 : w1.frozen? ⟨w.heap.size + 1, 4, none⟩ = false := Lib.frozen_of_heap hh1 4
  have c1_5 : w1.cell? ⟨w.heap.size + 1, 5, none⟩ = some (.string ⟨#[]⟩) := by rw [Lib.cell_of_heap hh1]; rfl
  have f1_5 : w1.frozen? ⟨w.heap.size + 1, 5, none⟩ = false := Lib.frozen_of_heap hh1 5
  have c1_6 : w1.cell? ⟨w.heap.size + 1, 6, none⟩ = some (.bool false) := by rw [Lib.cell_of_heap hh1]; rfl
  have f1_6 : w1.frozen? ⟨w.heap.size + 1, 6, none⟩ = false := Lib.frozen_of_heap hh1 6
  have c1_7 : w1.cell? ⟨w.heap.size + 1, 7, none⟩ = some (.bool false) := by rw [Lib.cell_of_heap hh1]; rfl
  have f1_7 : w1.frozen? ⟨w.heap.size + 1, 7, none⟩ = false := Lib.frozen_of_heap hh1 7
  clear hh1
  have sz1 := hbw1.size
  have HW1 := Lib.hid hbw1
  go_wp2_with fail
  refine (H2.out _).mono ?_; rintro e w2 ⟨rfl, hb⟩
  have hv0 := pset (i := 0) (HH0_1.out) (.string sc2) rfl
  have hh0 : w2.heap[w.heap.size]? = some (.cells #[.string sc2, .string us, .string ho, .string po, .string pa, .string qu, .bool hu, .bool hq] 23 (0, 0)) := (hb.block _ (heap_lt hv0)).trans hv0
  clear hv0
  have hv1 := pother (b' := w.heap.size) (i := 0) (HH1_1.out) (.string sc2) (by omega)
  have hh1 : w2.heap[w.heap.size + 1]? = some (.cells #[.string ⟨#[]⟩, .string ⟨#[]⟩, .string ⟨#[]⟩, .string ⟨#[]⟩, .string ⟨#[]⟩, .string ⟨#[]⟩, .bool false, .bool false] 23 (0, 0)) := (hb.block _ (heap_lt hv1)).trans hv1
  clear hv1
  have hbw2 : Below w.heap.size w w2 := (show Below w.heap.size w _ by first | exact HW1.out.trans ⟨rfl, rfl, rfl, Nat.le_refl _, fun _ _ => rfl⟩ | exact HW1.out | (go_grown; done)).trans (hb.mono (by first | omega | (simp; done) | (simp; omega)))
  clear hb lt0 c0_0 f0_0 c0_1 f0_1 c0_2 f0_2 c0_3 f0_3 c0_4 f0_4 c0_5 f0_5 c0_6 f0_6 c0_7 f0_7 lt1 c1_0 f1_0 c1_1 f1_1 c1_2 f1_2 c1_3 f1_3 c1_4 f1_4 c1_5 f1_5 c1_6 f1_6 c1_7 f1_7 hbw1
  have HH0_2 := Lib.hid hh0
  have lt0 := heap_lt hh0
  have c0_0 : w2.cell? ⟨w.heap.size, 0, none⟩ = some (.string sc2) := by rw [Lib.cell_of_heap hh0]; rfl
  have f0_0 : w2.frozen? ⟨w.heap.size, 0, none⟩ = false := Lib.frozen_of_heap hh0 0
  have c0_1 : w2.cell? ⟨w.heap.size, 1, none⟩ = some (.string us) := by rw [Lib.cell_of_heap hh0]; rfl
  have f0_1 : w2.frozen? ⟨w.heap.size, 1, none⟩ = false := Lib.frozen_of_heap hh0 1
  have c0_2 : w2.cell? ⟨w.heap.size, 2, none⟩ = some (.string ho) := by rw [Lib.cell_of_heap hh0]; rfl
  have f0_2 : w2.frozen? ⟨w.heap.size, 2, none⟩ = false := Lib.frozen_of_heap hh0 2
  have c0_3 : w2.cell? ⟨w.heap.size, 3, none⟩ = some (.string po) := by rw [Lib.cell_of_heap hh0]; rfl
  have f0_3 : w2.frozen? ⟨w.heap.size, 3, none⟩ = false := Lib.frozen_of_heap hh0 3
  have c0_4 : w2.cell? ⟨w.heap.size, 4, none⟩ = some (.string pa) := by rw [Lib.cell_of_heap hh0]; rfl
  have f0_4 : w2.frozen? ⟨w.heap.size, 4, none⟩ = false := Lib.frozen_of_heap hh0 4
  have c0_5 : w2.cell? ⟨w.heap.size, 5, none⟩ = some (.string qu) := by rw [Lib.cell_of_heap hh0]; rfl
  have f0_5 : w2.frozen? ⟨w.heap.size, 5, none⟩ = false := Lib.frozen_of_heap hh0 5
  have c0_6 : w2.cell? ⟨w.heap.size, 6, none⟩ = some (.bool hu) := by rw [Lib.cell_of_heap hh0]; rfl
  have f0_6 : w2.frozen? ⟨w.heap.size, 6, none⟩ = false := Lib.frozen_of_heap hh0 6
  have c0_7 : w2.cell? ⟨w.heap.size, 7, none⟩ = some (.bool hq) := by rw [Lib.cell_of_heap hh0]; rfl
  have f0_7 : w2.frozen? ⟨w.heap.size, 7, none⟩ = false := Lib.frozen_of_heap hh0 7
  clear hh0
  have HH1_2 := Lib.hid hh1
  have lt1 := heap_lt hh1
  have c1_0 : w2.cell? ⟨w.heap.size + 1, 0, none⟩ = some (.string ⟨#[]⟩) := by rw [Lib.cell_of_heap hh1]; rfl
  have f1_0 : w2.frozen? ⟨w.heap.size + 1, 0, none⟩ = false := Lib.frozen_of_heap hh1 0
  have c1_1 : w2.cell? ⟨w.heap.size + 1, 1, none⟩ = some (.string ⟨#[]⟩) := by rw [Lib.cell_of_heap hh1]; rfl
  have f1_1 : w2.frozen? ⟨w.heap.size + 1, 1, none⟩ = false := Lib.frozen_of_heap hh1 1
  have c1_2 : w2.cell? ⟨w.heap.size + 1, 2, none⟩ = some (.string ⟨#[]⟩) := by rw [Lib.cell_of_heap hh1]; rfl
  have f1_2 : w2.frozen? ⟨w.heap.size + 1, 2, none⟩ = false := Lib.frozen_of_heap hh1 2
  have c1_3 : w2.cell? ⟨w.heap.size + 1, 3, none⟩ = some (.string ⟨#[]⟩) := by rw [Lib.cell_of_heap hh1]; rfl
  have f1_3 : w2.frozen? ⟨w.heap.size + 1, 3, none⟩ = false := Lib.frozen_of_heap hh1 3
  have c1_4 : w2.cell? ⟨w.heap.size + 1, 4, none⟩ = some (.string ⟨#[]⟩) := by rw [Lib.cell_of_heap hh1]; rfl
  have f1_4 : w2.frozen? ⟨w.heap.size + 1, 4, none⟩ = false := Lib.frozen_of_heap hh1 4
  have c1_5 : w2.cell? ⟨w.heap.size + 1, 5, none⟩ = some (.string ⟨#[]⟩) := by rw [Lib.cell_of_heap hh1]; rfl
  have f1_5 : w2.frozen? ⟨w.heap.size + 1, 5, none⟩ = false := Lib.frozen_of_heap hh1 5
  have c1_6 : w2.cell? ⟨w.heap.size + 1, 6, none⟩ = some (.bool false) := by rw [Lib.cell_of_heap hh1]; rfl
  have f1_6 : w2.frozen? ⟨w.heap.size + 1, 6, none⟩ = false := Lib.frozen_of_heap hh1 6
  have c1_7 : w2.cell? ⟨w.heap.size + 1, 7, none⟩ = some (.bool false) := by rw [Lib.cell_of_heap hh1]; rfl
  have f1_7 : w2.frozen? ⟨w.heap.size + 1, 7, none⟩ = false := Lib.frozen_of_heap hh1 7
  clear hh1
  have sz2 := hbw2.size
  have HW2 := Lib.hid hbw2
  go_wp2_with fail
  refine (H3.out _).mono ?_; rintro e w3 ⟨rfl, hb⟩
  have hv0 := pset (i := 1) (HH0_2.out) (.string us2) rfl
  have hh0 : w3.heap[w.heap.size]? = some (.cells #[.string sc2, .string us2, .string ho, .string po, .string pa, .string qu, .bool hu, .bool hq] 23 (0, 0)) := (hb.block _ (heap_lt hv0)).trans hv0
  clear hv0
  have hv1 := pother (b' := w.heap.size) (i := 1) (HH1_2.out) (.string us2) (by omega)
  have hh1 : w3.heap[w.heap.size + 1]? = some (.cells #[.string ⟨#[]⟩, .string ⟨#[]⟩, .string ⟨#[]⟩, .string ⟨#[]⟩, .string ⟨#[]⟩, .string ⟨#[]⟩, .bool false, .bool false] 23 (0, 0)) := (hb.block _ (heap_lt hv1)).trans hv1
  clear hv1
  have hbw3 : Below w.heap.size w w3 := (show Below w.heap.size w _ by first | exact HW2.out.trans ⟨rfl, rfl, rfl, Nat.le_refl _, fun _ _ => rfl⟩ | exact HW2.out | (go_grown; done)).trans (hb.mono (by first | omega | (simp; done) | (simp; omega)))
  clear hb lt0 c0_0 f0_0 c0_1 f0_1 c0_2 f0_2 c0_3 f0_3 c0_4 f0_4 c0_5 f0_5 c0_6 f0_6 c0_7 f0_7 lt1 c1_0 f1_0 c1_1 f1_1 c1_2 f1_2 c1_3 f1_3 c1_4 f1_4 c1_5 f1_5 c1_6 f1_6 c1_7 f1_7 hbw2
  have HH0_3 := Lib.hid hh0
  have lt0 := heap_lt hh0
  have c0_0 : w3.cell? ⟨w.heap.size, 0, none⟩ = some (.string sc2) := by rw [Lib.cell_of_heap hh0]; rfl
  have f0_0 : w3.frozen? ⟨w.heap.size, 0, none⟩ = false := Lib.frozen_of_heap hh0 0
  have c0_1 : w3.cell? ⟨w.heap.size, 1, none⟩ = some (.string us2) := by rw [Lib.cell_of_heap hh0]; rfl
  have f0_1 : w3.frozen? ⟨w.heap.size, 1, none⟩ = false := Lib.frozen_of_heap hh0 1
  have c0_2 : w3.cell? ⟨w.heap.size, 2, none⟩ = some (.string ho) := by rw [Lib.cell_of_heap hh0]; rfl
  have f0_2 : w3.frozen? ⟨w.heap.size, 2, none⟩ = false := Lib.frozen_of_heap hh0 2
  have c0_3 : w3.cell? ⟨w.heap.size, 3, none⟩ = some (.string po) := by rw [Lib.cell_of_heap hh0]; rfl
  have f0_3 : w3.frozen? ⟨w.heap.size, 3, none⟩ = false := Lib.frozen_of_heap hh0 3
  have c0_4 : w3.cell? ⟨w.heap.size, 4, none⟩ = some (.string pa) := by rw [Lib.cell_of_heap hh0]; rfl
  have f0_4 : w3.frozen? ⟨w.heap.size, 4, none⟩ = false := Lib.frozen_of_heap hh0 4
  have c0_5 : w3.cell? ⟨w.heap.size, 5, none⟩ = some (.string qu) := by rw [Lib.cell_of_heap hh0]; rfl
  have f0_5 : w3.frozen? ⟨w.heap.size, 5, none⟩ = false := Lib.frozen_of_heap hh0 5
  have c0_6 : w3.cell? ⟨w.heap.size, 6, none⟩ = some (.bool hu) := by rw [Lib.cell_of_heap hh0]; rfl
  have f0_6 : w3.frozen? ⟨w.heap.size, 6, none⟩ = false := Lib.frozen_of_heap hh0 6
  have c0_7 : w3.cell? ⟨w.heap.size, 7, none⟩ = some (.bool hq) := by rw [Lib.cell_of_heap hh0]; rfl
  have f0_7 : w3.frozen? ⟨w.heap.size, 7, none⟩ = false := Lib.frozen_of_heap hh0 7
  clear hh0
  have HH1_3 := Lib.hid hh1
  have lt1 := heap_lt hh1
  have c1_0 : w3.cell? ⟨w.heap.size + 1, 0, none⟩ = some (.string ⟨#[]⟩) := by rw [Lib.cell_of_heap hh1]; rfl
  have f1_0 : w3.frozen? ⟨w.heap.size + 1, 0, none⟩ = false := Lib.frozen_of_heap hh1 0
  have c1_1 : w3.cell? ⟨w.heap.size + 1, 1, none⟩ = some (.string ⟨#[]⟩) := by rw [Lib.cell_of_heap hh1]; rfl
  have f1_1 : w3.frozen? ⟨w.heap.size + 1, 1, none⟩ = false := Lib.frozen_of_heap hh1 1
  have c1_2 : w3.cell? ⟨w.heap.size + 1, 2, none⟩ = some (.string ⟨#[]⟩) := by rw [Lib.cell_of_heap hh1]; rfl
  have f1_2 : w3.frozen? ⟨w.heap.size + 1, 2, none⟩ = false := Lib.frozen_of_heap hh1 2
  have c1_3 : w3.cell? ⟨w.heap.size + 1, 3, none⟩ = some (.string ⟨#[]⟩) := by rw [Lib.cell_of_heap hh1]; rfl
  have f1_3 : w3.frozen? ⟨w.heap.size + 1, 3, none⟩ = false := Lib.frozen_of_heap hh1 3
  have c1_4 : w3.cell? ⟨w.heap.size + 1, 4, none⟩ = some (.string ⟨#[]⟩) := by rw [Lib.cell_of_heap hh1]; rfl
  have f1_4 : w3.frozen? ⟨w.heap.size + 1, 4, none⟩ = false := Lib.frozen_of_heap hh1 4
  have c1_5 : w3.cell? ⟨w.heap.size + 1, 5, none⟩ = some (.string ⟨#[]⟩) := by rw [Lib.cell_of_heap hh1]; rfl
  have f1_5 : w3.frozen? ⟨w.heap.size + 1, 5, none⟩ = false := Lib.frozen_of_heap hh1 5
  have c1_6 : w3.cell? ⟨w.heap.size + 1, 6, none⟩ = some (.bool false) := by rw [Lib.cell_of_heap hh1]; rfl
  have f1_6 : w3.frozen? ⟨w.heap.size + 1, 6, none⟩ = false := Lib.frozen_of_heap hh1 6
  have c1_7 : w3.cell? ⟨w.heap.size + 1, 7, none⟩ = some (.bool false) := by rw [Lib.cell_of_heap hh1]; rfl
  have f1_7 : w3.frozen? ⟨w.heap.size + 1, 7, none⟩ = false := Lib.frozen_of_heap hh1 7
  clear hh1
  have sz3 := hbw3.size
  have HW3 := Lib.hid hbw3
  go_wp2_with fail
  refine (H4.out _).mono ?_; rintro e w4 ⟨rfl, hb⟩
  have hv0 := pset (i := 2) (HH0_3.out) (.string ho2) rfl
  have hh0 : w4.heap[w.heap.size]? = some (.cells #[.string sc2, .string us2, .string ho2, .string po, .string pa, .string qu, .bool hu, .bool hq] 23 (0, 0)) := (hb.block _ (heap_lt hv0)).trans hv0
  clear hv0
  have hv1 := pother (b' := w.heap.size) (i := 2) (HH1_3.out) (.string ho2) (by omega)
  have hh1 : w4.heap[w.heap.size + 1]? = some (.cells #[.string ⟨#[]⟩, .string ⟨#[]⟩, .string ⟨#[]⟩, .string ⟨#[]⟩, .string ⟨#[]⟩, .string ⟨#[]⟩, .bool false, .bool false] 23 (0, 0)) := (hb.block _ (heap_lt hv1)).trans hv1
  clear hv1
  have hbw4 : Below w.heap.size w w4 := (show Below w.heap.size w _ by first | exact HW3.out.trans ⟨rfl, rfl, rfl, Nat.le_refl _, fun _ _ => rfl⟩ | exact HW3.out | (go_grown; done)).trans (hb.mono (by first | omega | (simp; done) | (simp; omega)))
  clear hb lt0 c0_0 f0_0 c0_1 f0_1 c0_2 f0_2 c0_3 f0_3 c0_4 f0_4 c0_5 f0_5 c0_6 f0_6 c0_7 f0_7 lt1 c1_0 f1_0 c1_1 f1_1 c1_2 f1_2 c1_3 f1_3 c1_4 f1_4 c1_5 f1_5 c1_6 f1_6 c1_7 f1_7 hbw3
  have HH0_4 := Lib.hid hh0
  have lt0 := heap_lt hh0
  have c0_0 : w4.cell? ⟨w.heap.size, 0, none⟩ = some (.string sc2) := by rw [Lib.cell_of_heap hh0]; rfl
  have f0_0 : w4.frozen? ⟨w.heap.size, 0, none⟩ = false := Lib.frozen_of_heap hh0 0
  have c0_1 : w4.cell? ⟨w.heap.size, 1, none⟩ = some (.string us2) := by rw [Lib.cell_of_heap hh0]; rfl
  have f0_1 : w4.frozen? ⟨w.heap.size, 1, none⟩ = false := Lib.frozen_of_heap hh0 1
  have c0_2 : w4.cell? ⟨w.heap.size, 2, none⟩ = some (.string ho2) := by rw [Lib.cell_of_heap hh0]; rfl
  have f0_2 : w4.frozen? ⟨w.heap.size, 2, none⟩ = false := Lib.frozen_of_heap hh0 2
  have c0_3 : w4.cell? ⟨w.heap.size, 3, none⟩ = some (.string po) := by rw [Lib.cell_of_heap hh0]; rfl
  have f0_3 : w4.frozen? ⟨w.heap.size, 3, none⟩ = false := Lib.frozen_of_heap hh0 3
  have c0_4 : w4.cell? ⟨w.heap.size, 4, none⟩ = some (.string pa) := by rw [Lib.cell_of_heap hh0]; rfl
  have f0_4 : w4.frozen? ⟨w.heap.size, 4, none⟩ = false := Lib.frozen_of_heap hh0 4
  have c0_5 : w4.cell? ⟨w.heap.size, 5, none⟩ = some (.string qu) := by rw [Lib.cell_of_heap hh0]; rfl
  have f0_5 : w4.frozen? ⟨w.heap.size, 5, none⟩ = false := Lib.frozen_of_heap hh0 5
  have c0_6 : w4.cell? ⟨w.heap.size, 6, none⟩ = some (.bool hu) := by rw [Lib.cell_of_heap hh0]; rfl
  have f0_6 : w4.frozen? ⟨w.heap.size, 6, none⟩ = false := Lib.frozen_of_heap hh0 6
  have c0_7 : w4.cell? ⟨w.heap.size, 7, none⟩ = some (.bool hq) := by rw [Lib.cell_of_heap hh0]; rfl
  have f0_7 : w4.frozen? ⟨w.heap.size, 7, none⟩ = false := Lib.frozen_of_heap hh0 7
  clear hh0
  have HH1_4 := Lib.hid hh1
  have lt1 := heap_lt hh1
  have c1_0 : w4.cell? ⟨w.heap.size + 1, 0, none⟩ = some (.string ⟨#[]⟩) := by rw [Lib.cell_of_heap hh1]; rfl
  have f1_0 : w4.frozen? ⟨w.heap.size + 1, 0, none⟩ = false := Lib.frozen_of_heap hh1 0
  have c1_1 : w4.cell? ⟨w.heap.size + 1, 1, none⟩ = some (.string ⟨#[]⟩) := by rw [Lib.cell_of_heap hh1]; rfl
  have f1_1 : w4.frozen? ⟨w.heap.size + 1, 1, none⟩ = false := Lib.frozen_of_heap hh1 1
  have c1_2 : w4.cell? ⟨w.heap.size + 1, 2, none⟩ = some (.string ⟨#[]⟩) := by rw [Lib.cell_of_heap hh1]; rfl
  have f1_2 : w4.frozen? ⟨w.heap.size + 1, 2, none⟩ = false := Lib.frozen_of_heap hh1 2
  have c1_3 : w4.cell? ⟨w.heap.size + 1, 3, none⟩ = some (.string ⟨#[]⟩) := by rw [Lib.cell_of_heap hh1]; rfl
  have f1_3 : w4.frozen? ⟨w.heap.size + 1, 3, none⟩ = false := Lib.frozen_of_heap hh1 3
  have c1_4 : w4.cell? ⟨w.heap.size + 1, 4, none⟩ = some (.string ⟨#[]⟩) := by rw [Lib.cell_of_heap hh1]; rfl
  have f1_4 : w4.frozen? ⟨w.heap.size + 1, 4, none⟩ = false := Lib.frozen_of_heap hh1 4
  have c1_5 : w4.cell? ⟨w.heap.size + 1, 5, none⟩ = some (.string ⟨#[]⟩) := by rw [Lib.cell_of_heap hh1]; rfl
  have f1_5 : w4.frozen? ⟨w.heap.size + 1, 5, none⟩ = false := Lib.frozen_of_heap hh1 5
  have c1_6 : w4.cell? ⟨w.heap.size + 1, 6, none⟩ = some (.bool false) := by rw [Lib.cell_of_heap hh1]; rfl
  have f1_6 : w4.frozen? ⟨w.heap.size + 1, 6, none⟩ = false := Lib.frozen_of_heap hh1 6
  have c1_7 : w4.cell? ⟨w.heap.size + 1, 7, none⟩ = some (.bool false) := by rw [Lib.cell_of_heap hh1]; rfl
  have f1_7 : w4.frozen? ⟨w.heap.size + 1, 7, none⟩ = false := Lib.frozen_of_heap hh1 7
  clear hh1
  have sz4 := hbw4.size
  have HW4 := Lib.hid hbw4
  go_wp2_with fail
  refine (H5.out _).mono ?_; rintro e w5 ⟨rfl, hb⟩
  have hv0 := pset (i := 4) (HH0_4.out) (.string pa2) rfl
  have hh0 : w5.heap[w.heap.size]? = some (.cells #[.string sc2, .string us2, .string ho2, .string po, .string pa2, .string qu, .bool hu, .bool hq] 23 (0, 0)) := (hb.block _ (heap_lt hv0)).trans hv0
  clear hv0
  have hv1 := pother (b' := w.heap.size) (i := 4) (HH1_4.out) (.string pa2) (by omega)
  have hh1 : w5.heap[w.heap.size + 1]? = some (.cells #[.string ⟨#[]⟩, .string ⟨#[]⟩, .string ⟨#[]⟩, .string ⟨#[]⟩, .string ⟨#[]⟩, .string ⟨#[]⟩, .bool false, .bool false] 23 (0, 0)) := (hb.block _ (heap_lt hv1)).trans hv1
  clear hv1
  have hbw5 : Below w.heap.size w w5 := (show Below w.heap.size w _ by first | exact HW4.out.trans ⟨rfl, rfl, rfl, Nat.le_refl _, fun _ _ => rfl⟩ | exact HW4.out | (go_grown; done)).trans (hb.mono (by first | omega | (simp; done) | (simp; omega)))
  clear hb lt0 c0_0 f0_0 c0_1 f0_1 c0_2 f0_2 c0_3 f0_3 c0_4 f0_4 c0_5 f0_5 c0_6 f0_6 c0_7 f0_7 lt1 c1_0 f1_0 c1_1 f1_1 c1_2 f1_2 c1_3 f1_3 c1_4 f1_4 c1_5 f1_5 c1_6 f1_6 c1_7 f1_7 hbw4
  have HH0_5 := Lib.hid hh0
  have lt0 := heap_lt hh0
  have c0_0 : w5.cell? ⟨w.heap.size, 0, none⟩ = some (.string sc2) := by rw [Lib.cell_of_heap hh0]; rfl
  have f0_0 : w5.frozen? ⟨w.heap.size, 0, none⟩ = false := Lib.frozen_of_heap hh0 0
  have c0_1 : w5.cell? ⟨w.heap.size, 1, none⟩ = some (.string us2) := by rw [Lib.cell_of_heap hh0]; rfl
  have f0_1 : w5.frozen? ⟨w.heap.size, 1, none⟩ = false := Lib.frozen_of_heap hh0 1
  have c0_2 : w5.cell? ⟨w.heap.size, 2, none⟩ = some (.string ho2) := by rw [Lib.cell_of_heap hh0]; rfl
  have f0_2 : w5.frozen? ⟨w.heap.size, 2, none⟩ = false := Lib.frozen_of_heap hh0 2
  have c0_3 : w5.cell? ⟨w.heap.size, 3, none⟩ = some (.string po) := by rw [Lib.cell_of_heap hh0]; rfl
  have f0_3 : w5.frozen? ⟨w.heap.size, 3, none⟩ = false := Lib.frozen_of_heap hh0 3
  have c0_4 : w5.cell? ⟨w.heap.size, 4, none⟩ = some (.string pa2) := by rw [Lib.cell_of_heap hh0]; rfl
  have f0_4 : w5.frozen? ⟨w.heap.size, 4, none⟩ = false := Lib.frozen_of_heap hh0 4
  have c0_5 : w5.cell? ⟨w.heap.size, 5, none⟩ = some (.string qu) := by rw [Lib.cell_of_heap hh0]; rfl
  have f0_5 : w5.frozen? ⟨w.heap.size, 5, none⟩ = false := Lib.frozen_of_heap hh0 5
  have c0_6 : w5.cell? ⟨w.heap.size, 6, none⟩ = some (.bool hu) := by rw [Lib.cell_of_heap hh0]; rfl
  have f0_6 : w5.frozen? ⟨w.heap.size, 6, none⟩ = false := Lib.frozen_of_heap hh0 6
  have c0_7 : w5.cell? ⟨w.heap.size, 7, none⟩ = some (.bool hq) := by rw [Lib.cell_of_heap hh0]; rfl
  have f0_7 : w5.frozen? ⟨w.heap.size, 7, none⟩ = false := Lib.frozen_of_heap hh0 7
  clear hh0
  have HH1_5 := Lib.hid hh1
  have lt1 := heap_lt hh1
  have c1_0 : w5.cell? ⟨w.heap.size + 1, 0, none⟩ = some (.string ⟨#[]⟩) := by rw [Lib.cell_of_heap hh1]; rfl
  have f1_0 : w5.frozen? ⟨w.heap.size + 1, 0, none⟩ = false := Lib.frozen_of_heap hh1 0
  have c1_1 : w5.cell? ⟨w.heap.size + 1, 1, none⟩ = some (.string ⟨#[]⟩) := by rw [Lib.cell_of_heap hh1]; rfl
  have f1_1 : w5.frozen? ⟨w.heap.size + 1, 1, none⟩ = false := Lib.frozen_of_heap hh1 1
  have c1_2 : w5.cell? ⟨w.heap.size + 1, 2, none⟩ = some (.string ⟨#[]⟩) := by rw [Lib.cell_of_heap hh1]; rfl
  have f1_2 : w5.frozen? ⟨w.heap.size + 1, 2, none⟩ = false := Lib.frozen_of_heap hh1 2
  have c1_3 : w5.cell? ⟨w.heap.size + 1, 3, none⟩ = some (.string ⟨#[]⟩) := by rw [Lib.cell_of_heap hh1]; rfl
  have f1_3 : w5.frozen? ⟨w.heap.size + 1, 3, none⟩ = false := Lib.frozen_of_heap hh1 3
  have c1_4 : w5.cell? ⟨w.heap.size + 1, 4, none⟩ = some (.string ⟨#[]⟩) := by rw [Lib.cell_of_heap hh1]; rfl
  have f1_4 : w5.frozen? ⟨w.heap.size + 1, 4, none⟩ = false := Lib.frozen_of_heap hh1 4
  have c1_5 : w5.cell? ⟨w.heap.size + 1, 5, none⟩ = some (.string ⟨#[]⟩) := by rw [Lib.cell_of_heap hh1]; rfl
  have f1_5 : w5.frozen? ⟨w.heap.size + 1, 5, none⟩ = false := Lib.frozen_of_heap hh1 5
  have c1_6 : w5.cell? ⟨w.heap.size + 1, 6, none⟩ = some (.bool false) := by rw [Lib.cell_of_heap hh1]; rfl
  have f1_6 : w5.frozen? ⟨w.heap.size + 1, 6, none⟩ = false := Lib.frozen_of_heap hh1 6
  have c1_7 : w5.cell? ⟨w.heap.size + 1, 7, none⟩ = some (.bool false) := by rw [Lib.cell_of_heap hh1]; rfl
  have f1_7 : w5.frozen? ⟨w.heap.size + 1, 7, none⟩ = false := Lib.frozen_of_heap hh1 7
  clear hh1
  have sz5 := hbw5.size
  have HW5 := Lib.hid hbw5
  go_wp2_with fail
  refine bodyPost_ret (v := .agg #[.string sc2, .string us2, .string ho2, .string po, .string pa2, .string qu2, .bool hu, .bool hq]) (by simp [results, Tryz.results23, go_sem, *]) rfl ⟨rfl, ?_⟩
  go_grown
set_option maxRecDepth 100000 in
set_option maxHeartbeats 2000000 in
theorem rCanon_no (s : ByteArray) (H1 : Hid (Does 6 #[.string s] (.tuple #[.agg #[.string ⟨#[]⟩, .string ⟨#[]⟩, .string ⟨#[]⟩, .string ⟨#[]⟩, .string ⟨#[]⟩, .string ⟨#[]⟩, .bool false, .bool false], .int .i64 150]))) (w : World) :
    Calls Tryz.prog 8 #[.string s] w fun e w' => e = .returned (.tuple #[.string ⟨#[]⟩, .int .i64 150]) ∧ Below w.heap.size w w' := by
  go_enter Tryz.func8, Tryz.ntmps8
  go_wp2_with fail
  refine (H1.out _).mono ?_; rintro e w1 ⟨rfl, hb⟩
  have hbw1 : Below w.heap.size w w1 := (show Below w.heap.size w _ by first | exact Below.refl _ _ | (go_grown; done)).trans (hb.mono (by first | omega | (simp; done) | (simp; omega)))
  clear hb
  have sz1 := hbw1.size
  have HW1 := Lib.hid hbw1
  go_wp2_with fail
  go_ret2
  exact ⟨rfl, HW1.out.alloc sz1 _⟩
set_option maxRecDepth 100000 in
set_option maxHeartbeats 2000000 in
theorem rCanon_go (s tx sc us ho po pa qu sc2 us2 ho2 pa2 qu2 : ByteArray) (hu hq : Bool) (H1 : Hid (Does 6 #[.string s] (.tuple #[.agg #[.string sc, .string us, .string ho, .string po, .string pa, .string qu, .bool hu, .bool hq], .int .i64 0]))) (H2 : Hid (Does 23 #[.agg #[.string sc, .string us, .string ho, .string po, .string pa, .string qu, .bool hu, .bool hq]] (.agg #[.string sc2, .string us2, .string ho2, .string po, .string pa2, .string qu2, .bool hu, .bool hq]))) (H3 : Hid (Does 22 #[.agg #[.string sc2, .string us2, .string ho2, .string po, .string pa2, .string qu2, .bool hu, .bool hq]] (.string tx))) (w : World) :
    Calls Tryz.prog 8 #[.string s] w fun e w' => e = .returned (.tuple #[.string tx, .int .i64 0]) ∧ Below w.heap.size w w' := by
  go_enter Tryz.func8, Tryz.ntmps8
  go_wp2_with fail
  refine (H1.out _).mono ?_; rintro e w1 ⟨rfl, hb⟩
  have hbw1 : Below w.heap.size w w1 := (show Below w.heap.size w _ by first | exact Below.refl _ _ | (go_grown; done)).trans (hb.mono (by first | omega | (simp; done) | (simp; omega)))
  clear hb
  have sz1 := hbw1.size
  have HW1 := Lib.hid hbw1
  go_wp2_with fail
  refine (H2.out _).mono ?_; rintro e w2 ⟨rfl, hb⟩
  have hbw2 : Below w.heap.size w w2 := (show Below w.heap.size w _ by first | exact HW1.out.trans ⟨rfl, rfl, rfl, Nat.le_refl _, fun _ _ => rfl⟩ | exact HW1.out | (go_grown; done)).trans (hb.mono (by first | omega | (simp; done) | (simp; omega)))
  clear hb hbw1
  have sz2 := hbw2.size
  have HW2 := Lib.hid hbw2
  go_wp2_with fail
  refine (H3.out _).mono ?_; rintro e w3 ⟨rfl, hb⟩
  have hbw3 : Below w.heap.size w w3 := (show Below w.heap.size w _ by first | exact HW2.out.trans ⟨rfl, rfl, rfl, Nat.le_refl _, fun _ _ => rfl⟩ | exact HW2.out | (go_grown; done)).trans (hb.mono (by first | omega | (simp; done) | (simp; omega)))
  clear hb hbw2
  have sz3 := hbw3.size
  have HW3 := Lib.hid hbw3
  go_wp2_with fail
  go_ret2
  exact ⟨rfl, HW3.out⟩
theorem rplain_does (l : List UInt8) (b : Bool) (hl : l.length ≤ 100000) : Does 49 #[.string (bs l), .bool b] (.string (bs (plainL (if b then lowB else id) l))) := fun w => by
  cases b
  · exact rplain_false (bs l) (by rw [bs_size]; exact hl) w
  · exact rplain_true (bs l) (by rw [bs_size]; exact hl) w
theorem rcanon_any (s : ByteArray) (hs : s.size ≤ 100000) (w : World) :
    Calls Tryz.prog 8 #[.string s] w fun e w' => e = .returned (canonV s.data.toList) ∧ Below w.heap.size w w' := by
  obtain ⟨l, hl⟩ : ∃ l, s.data.toList = l := ⟨_, rfl⟩
  obtain rfl : s = bs l := bs_of s l hl
  rw [bs_list]
  have hll : l.length ≤ 100000 := by rw [← bs_size]; exact hs
  have hp := parts_le l
  have H1 : Does 6 #[.string (bs l)] (parseV l) := fun w => rparse_any (bs l) hs w
  cases hok : parseOk l with
  | false =>
    have hv : canonV l = .tuple #[.string ⟨#[]⟩, .int .i64 150] := by unfold canonV; rw [hok]; rfl
    have hv2 : parseV l = .tuple #[zeroA, .int .i64 150] := by unfold parseV; rw [hok]; rfl
    rw [hv]
    rw [hv2] at H1
    exact rCanon_no (bs l) (Lib.hid H1) w
  | true =>
    have hv : canonV l = .tuple #[.string (bs (canonL l)), .int .i64 0] := by unfold canonV; rw [hok]; rfl
    have hv2 : parseV l = .tuple #[addrV (scP l) (usP l) (hoP l) (poP l) (paP l) (quP l) (huP l) (hqP l), .int .i64 0] := by unfold parseV; rw [hok]; rfl
    rw [hv]
    rw [hv2] at H1
    have e1 := plain_le lowB (scP l)
    have e2 := plain_le id (usP l)
    have e3 := plain_le lowB (hoP l)
    have e4 := plain_le id (paP l)
    have e5 := plain_le id (quP l)
    exact rCanon_go (bs l) (bs (canonL l)) (bs (scP l)) (bs (usP l)) (bs (hoP l)) (bs (poP l)) (bs (paP l)) (bs (quP l)) (bs (plainL lowB (scP l))) (bs (plainL id (usP l))) (bs (plainL lowB (hoP l))) (bs (plainL id (paP l))) (bs (plainL id (quP l))) (huP l) (hqP l) (Lib.hid H1)
      (Lib.hid fun V => rPlain_go _ _ _ _ _ _ _ _ _ _ _ _ _ (Lib.hid (rplain_does (scP l) true (by omega))) (Lib.hid (rplain_does (usP l) false (by omega))) (Lib.hid (rplain_does (hoP l) true (by omega))) (Lib.hid (rplain_does (paP l) false (by omega))) (Lib.hid (rplain_does (quP l) false (by omega))) V)
      (Lib.hid fun V => rtell_any (bs _) (bs _) (bs _) (bs (poP l)) (bs _) (bs _) (huP l) (hqP l) (by rw [bs_size]; omega) (by rw [bs_size]; omega) (by rw [bs_size]; omega) (by rw [bs_size]; omega) (by rw [bs_size]; omega) (by rw [bs_size]; omega) V) w
end Go.Proofs.YtcocjmbhbddgiaaGreatDoor
