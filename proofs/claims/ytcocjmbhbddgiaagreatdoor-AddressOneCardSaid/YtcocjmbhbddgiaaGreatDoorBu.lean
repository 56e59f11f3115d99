/- The walk of the law AddressOne. -/
import Derived.Test.YtcocjmbhbddgiaaGreatDoorBh
import Derived.Test.YtcocjmbhbddgiaaGreatDoorBs
import Derived.Test.YtcocjmbhbddgiaaGreatDoorAs
import Derived.Test.YtcocjmbhbddgiaaGreatDoorBp
set_option linter.unusedSimpArgs false
set_option linter.unusedVariables false
namespace Go.Proofs.YtcocjmbhbddgiaaGreatDoor
open Go.RowKit
set_option maxRecDepth 100000 in
theorem one_big (s : ByteArray) (hs : 3000 < s.size) (w : World) :
    Calls Tryz.prog 4 #[.string s] w fun e w' => e = .returned (.bool true) ∧ Below w.heap.size w w' := by
  have AL := Lib.hid (fun w => alive_any w)
  go_enter Tryz.func4, Tryz.ntmps4
  go_wp2_with fail
  refine (AL.out _).mono ?_; rintro e w1 ⟨rfl, hb⟩
  have hbw1 : Below w.heap.size w w1 := (show Below w.heap.size w _ by first | exact Below.refl _ _ | (go_grown; done)).trans (hb.mono (by first | omega | (simp; done) | (simp; omega)))
  clear hb
  have sz1 := hbw1.size
  have HW1 := Lib.hid hbw1
  go_wp2_with fail
  go_ret
  exact ⟨rfl, HW1.out⟩
set_option maxRecDepth 100000 in
set_option maxHeartbeats 2000000 in
theorem one_no (s : ByteArray) (hs : s.size ≤ 3000) (H1 : Hid (Does 5 #[.string s] (.tuple #[.agg #[.string ⟨#[]⟩, .string ⟨#[]⟩, .string ⟨#[]⟩, .string ⟨#[]⟩, .string ⟨#[]⟩, .string ⟨#[]⟩, .bool false, .bool false], .int .i64 150]))) (H2 : Hid (Does 7 #[.string s] (.tuple #[.string ⟨#[]⟩, .int .i64 150]))) (w : World) :
    Calls Tryz.prog 4 #[.string s] w fun e w' => e = .returned (.bool true) ∧ Below w.heap.size w w' := by
  have AL := Lib.hid (fun w => alive_any w)
  go_enter Tryz.func4, Tryz.ntmps4
  go_wp2_with fail
  refine (AL.out _).mono ?_; rintro e w1 ⟨rfl, hb⟩
  have hbw1 : Below w.heap.size w w1 := (show Below w.heap.size w _ by first | exact Below.refl _ _ | (go_grown; done)).trans (hb.mono (by first | omega | (simp; done) | (simp; omega)))
  clear hb
  have sz1 := hbw1.size
  have HW1 := Lib.hid hbw1
  go_wp2_with fail
  refine (H1.out _).mono ?_; rintro e w2 ⟨rfl, hb⟩
  have hbw2 : Below w.heap.size w w2 := (show Below w.heap.size w _ by first | exact HW1.out.trans ⟨rfl, rfl, rfl, Nat.le_refl _, fun _ _ => rfl⟩ | exact HW1.out | (go_grown; done)).trans (hb.mono (by first | omega | (simp; done) | (simp; omega)))
  clear hb hbw1
  have sz2 := hbw2.size
  have HW2 := Lib.hid hbw2
  go_wp2_with fail
  refine (H2.out _).mono ?_; rintro e w3 ⟨rfl, hb⟩
  have hh0 : w3.heap[w2.heap.size]? = some (.cells #[.string ⟨#[]⟩, .string ⟨#[]⟩, .string ⟨#[]⟩, .string ⟨#[]⟩, .string ⟨#[]⟩, .string ⟨#[]⟩, .bool false, .bool false] 23 (0, 0)) := (hb.block _ (by first | omega | (simp; done) | (simp; omega))).trans (heap_new _ _ _ (by first | rfl | simp))
  have hbw3 : Below w.heap.size w w3 := (show Below w.heap.size w _ by first | exact HW2.out.trans ⟨rfl, rfl, rfl, Nat.le_refl _, fun _ _ => rfl⟩ | exact HW2.out | (go_grown; done)).trans (hb.mono (by first | omega | (simp; done) | (simp; omega)))
  clear hb hbw2
  have HH0_3 := Lib.hid hh0
  have lt0 := heap_lt hh0
  have c0_0 : w3.cell? ⟨w2.heap.size, 0, none⟩ = some (.string ⟨#[]⟩) := by rw [Lib.cell_of_heap hh0]; rfl
  have c0_1 : w3.cell? ⟨w2.heap.size, 1, none⟩ = some (.string ⟨#[]⟩) := by rw [Lib.cell_of_heap hh0]; rfl
  have c0_2 : w3.cell? ⟨w2.heap.size, 2, none⟩ = some (.string ⟨#[]⟩) := by rw [Lib.cell_of_heap hh0]; rfl
  have c0_3 : w3.cell? ⟨w2.heap.size, 3, none⟩ = some (.string ⟨#[]⟩) := by rw [Lib.cell_of_heap hh0]; rfl
  have c0_4 : w3.cell? ⟨w2.heap.size, 4, none⟩ = some (.string ⟨#[]⟩) := by rw [Lib.cell_of_heap hh0]; rfl
  have c0_5 : w3.cell? ⟨w2.heap.size, 5, none⟩ = some (.string ⟨#[]⟩) := by rw [Lib.cell_of_heap hh0]; rfl
  have c0_6 : w3.cell? ⟨w2.heap.size, 6, none⟩ = some (.bool false) := by rw [Lib.cell_of_heap hh0]; rfl
  have c0_7 : w3.cell? ⟨w2.heap.size, 7, none⟩ = some (.bool false) := by rw [Lib.cell_of_heap hh0]; rfl
  clear hh0
  have sz3 := hbw3.size
  have HW3 := Lib.hid hbw3
  go_wp2_with fail
  go_ret
  exact ⟨rfl, HW3.out⟩
set_option maxRecDepth 100000 in
set_option maxHeartbeats 4000000 in
theorem one_go (s sc us ho po pa qu sc2 us2 ho2 pa2 qu2 sc3 cx tx : ByteArray) (hu hq : Bool) (hs : s.size ≤ 3000) (H1 : Hid (Does 5 #[.string s] (.tuple #[.agg #[.string sc, .string us, .string ho, .string po, .string pa, .string qu, .bool hu, .bool hq], .int .i64 0]))) (H2 : Hid (Does 7 #[.string s] (.tuple #[.string cx, .int .i64 0])))
    (H3 : Hid (Does 5 #[.string cx] (.tuple #[.agg #[.string sc2, .string us2, .string ho2, .string po, .string pa2, .string qu2, .bool hu, .bool hq], .int .i64 0]))) (H4 : Hid (Does 7 #[.string cx] (.tuple #[.string cx, .int .i64 0]))) (hlen : cx.size ≤ s.size)
    (H5 : Hid (Does 10 #[.string sc] (.string sc3))) (H6 : Hid (Does 11 #[.agg #[.string sc3, .string us, .string ho, .string po, .string pa, .string qu, .bool hu, .bool hq]] (.tuple #[.string tx, .int .i64 0]))) (H7 : Hid (Does 7 #[.string tx] (.tuple #[.string cx, .int .i64 0]))) (w : World) :
    Calls Tryz.prog 4 #[.string s] w fun e w' => e = .returned (.bool true) ∧ Below w.heap.size w w' := by
  have AL := Lib.hid (fun w => alive_any w)
  go_enter Tryz.func4, Tryz.ntmps4
  go_wp2_with fail
  refine (AL.out _).mono ?_; rintro e w1 ⟨rfl, hb⟩
  have hbw1 : Below w.heap.size w w1 := (show Below w.heap.size w _ by first | exact Below.refl _ _ | (go_grown; done)).trans (hb.mono (by first | omega | (simp; done) | (simp; omega)))
  clear hb
  have sz1 := hbw1.size
  have HW1 := Lib.hid hbw1
  go_wp2_with fail
  refine (H1.out _).mono ?_; rintro e w2 ⟨rfl, hb⟩
  have hbw2 : Below w.heap.size w w2 := (show Below w.heap.size w _ by first | exact HW1.out.trans ⟨rfl, rfl, rfl, Nat.le_refl _, fun _ _ => rfl⟩ | exact HW1.out | (go_grown; done)).trans (hb.mono (by first | omega | (simp; done) | (simp; omega)))
  clear hb hbw1
  have sz2 := hbw2.size
  have HW2 := Lib.hid hbw2
  go_wp2_with fail
  refine (H2.out _).mono ?_; rintro e w3 ⟨rfl, hb⟩
  have hh0 : w3.heap[w2.heap.size]? = some (.cells #[.string sc, .string us, .string ho, .string po, .string pa, .string qu, .bool hu, .bool hq] 23 (0, 0)) := (hb.block _ (by first | omega | (simp; done) | (simp; omega))).trans (heap_new _ _ _ (by first | rfl | simp))
  have hbw3 : Below w.heap.size w w3 := (show Below w.heap.size w _ by first | exact HW2.out.trans ⟨rfl, rfl, rfl, Nat.le_refl _, fun _ _ => rfl⟩ | exact HW2.out | (go_grown; done)).trans (hb.mono (by first | omega | (simp; done) | (simp; omega)))
  clear hb hbw2
  have HH0_3 := Lib.hid hh0
  have lt0 := heap_lt hh0
  have c0_0 : w3.cell? ⟨w2.heap.size, 0, none⟩ = some (.string sc) := by rw [Lib.cell_of_heap hh0]; rfl
  have f0_0 : w3.frozen? ⟨w2.heap.size, 0, none⟩ = false := Lib.frozen_of_heap hh0 0
  have c0_1 : w3.cell? ⟨w2.heap.size, 1, none⟩ = some (.string us) := by rw [Lib.cell_of_heap hh0]; rfl
  have f0_1 : w3.frozen? ⟨w2.heap.size, 1, none⟩ = false := Lib.frozen_of_heap hh0 1
  have c0_2 : w3.cell? ⟨w2.heap.size, 2, none⟩ = some (.string ho) := by rw [Lib.cell_of_heap hh0]; rfl
  have f0_2 : w3.frozen? ⟨w2.heap.size, 2, none⟩ = false := Lib.frozen_of_heap hh0 2
  have c0_3 : w3.cell? ⟨w2.heap.size, 3, none⟩ = some (.string po) := by rw [Lib.cell_of_heap hh0]; rfl
  have f0_3 : w3.frozen? ⟨w2.heap.size, 3, none⟩ = false := Lib.frozen_of_heap hh0 3
  have c0_4 : w3.cell? ⟨w2.heap.size, 4, none⟩ = some (.string pa) := by rw [Lib.cell_of_heap hh0]; rfl
  have f0_4 : w3.frozen? ⟨w2.heap.size, 4, none⟩ = false := Lib.frozen_of_heap hh0 4
  have c0_5 : w3.cell? ⟨w2.heap.size, 5, none⟩ = some (.string qu) := by rw [Lib.cell_of_heap hh0]; rfl
  have f0_5 : w3.frozen? ⟨w2.heap.size, 5, none⟩ = false := Lib.frozen_of_heap hh0 5
  have c0_6 : w3.cell? ⟨w2.heap.size, 6, none⟩ = some (.bool hu) := by rw [Lib.cell_of_heap hh0]; rfl
  have f0_6 : w3.frozen? ⟨w2.heap.size, 6, none⟩ = false := Lib.frozen_of_heap hh0 6
  have c0_7 : w3.cell? ⟨w2.heap.size, 7, none⟩ = some (.bool hq) := by rw [Lib.cell_of_heap hh0]; rfl
  have f0_7 : w3.frozen? ⟨w2.heap.size, 7, none⟩ = false := Lib.frozen_of_heap hh0 7
  clear hh0
  have sz3 := hbw3.size
  have HW3 := Lib.hid hbw3
  go_wp2_with fail
  refine (H3.out _).mono ?_; rintro e w4 ⟨rfl, hb⟩
  have hv0 := HH0_3.out
  have hh0 : w4.heap[w2.heap.size]? = some (.cells #[.string sc, .string us, .string ho, .string po, .string pa, .string qu, .bool hu, .bool hq] 23 (0, 0)) := (hb.block _ (heap_lt hv0)).trans hv0
  clear hv0
  have hbw4 : Below w.heap.size w w4 := (show Below w.heap.size w _ by first | exact HW3.out.trans ⟨rfl, rfl, rfl, Nat.le_refl _, fun _ _ => rfl⟩ | exact HW3.out | (go_grown; done)).trans (hb.mono (by first | omega | (simp; done) | (simp; omega)))
  clear hb lt0 c0_0 f0_0 c0_1 f0_1 c0_2 f0_2 c0_3 f0_3 c0_4 f0_4 c0_5 f0_5 c0_6 f0_6 c0_7 f0_7 hbw3
  have HH0_4 := Lib.hid hh0
  have lt0 := heap_lt hh0
  have c0_0 : w4.cell? ⟨w2.heap.size, 0, none⟩ = some (.string sc) := by rw [Lib.cell_of_heap hh0]; rfl
  have f0_0 : w4.frozen? ⟨w2.heap.size, 0, none⟩ = false := Lib.frozen_of_heap hh0 0
  have c0_1 : w4.cell? ⟨w2.heap.size, 1, none⟩ = some (.string us) := by rw [Lib.cell_of_heap hh0]; rfl
  have f0_1 : w4.frozen? ⟨w2.heap.size, 1, none⟩ = false := Lib.frozen_of_heap hh0 1
  have c0_2 : w4.cell? ⟨w2.heap.size, 2, none⟩ = some (.string ho) := by rw [Lib.cell_of_heap hh0]; rfl
  have f0_2 : w4.frozen? ⟨w2.heap.size, 2, none⟩ = false := Lib.frozen_of_heap hh0 2
  have c0_3 : w4.cell? ⟨w2.heap.size, 3, none⟩ = some (.string po) := by rw [Lib.cell_of_heap hh0]; rfl
  have f0_3 : w4.frozen? ⟨w2.heap.size, 3, none⟩ = false := Lib.frozen_of_heap hh0 3
  have c0_4 : w4.cell? ⟨w2.heap.size, 4, none⟩ = some (.string pa) := by rw [Lib.cell_of_heap hh0]; rfl
  have f0_4 : w4.frozen? ⟨w2.heap.size, 4, none⟩ = false := Lib.frozen_of_heap hh0 4
  have c0_5 : w4.cell? ⟨w2.heap.size, 5, none⟩ = some (.string qu) := by rw [Lib.cell_of_heap hh0]; rfl
  have f0_5 : w4.frozen? ⟨w2.heap.size, 5, none⟩ = false := Lib.frozen_of_heap hh0 5
  have c0_6 : w4.cell? ⟨w2.heap.size, 6, none⟩ = some (.bool hu) := by rw [Lib.cell_of_heap hh0]; rfl
  have f0_6 : w4.frozen? ⟨w2.heap.size, 6, none⟩ = false := Lib.frozen_of_heap hh0 6
  have c0_7 : w4.cell? ⟨w2.heap.size, 7, none⟩ = some (.bool hq) := by rw [Lib.cell_of_heap hh0]; rfl
  have f0_7 : w4.frozen? ⟨w2.heap.size, 7, none⟩ = false := Lib.frozen_of_heap hh0 7
  clear hh0
  have sz4 := hbw4.size
  have HW4 := Lib.hid hbw4
  go_wp2_with fail
  refine (H4.out _).mono ?_; rintro e w5 ⟨rfl, hb⟩
  have hv0 := heap_old (o' := (.cells #[.string sc2, .string us2, .string ho2, .string po, .string pa2, .string qu2, .bool hu, .bool hq] 23 (0, 0))) (HH0_4.out)
  have hh0 : w5.heap[w2.heap.size]? = some (.cells #[.string sc, .string us, .string ho, .string po, .string pa, .string qu, .bool hu, .bool hq] 23 (0, 0)) := (hb.block _ (heap_lt hv0)).trans hv0
  clear hv0
  have hh1 : w5.heap[w4.heap.size]? = some (.cells #[.string sc2, .string us2, .string ho2, .string po, .string pa2, .string qu2, .bool hu, .bool hq] 23 (0, 0)) := (hb.block _ (by first | omega | (simp; done) | (simp; omega))).trans (heap_new _ _ _ (by first | rfl | simp))
  have hbw5 : Below w.heap.size w w5 := (show Below w.heap.size w _ by first | exact HW4.out.trans ⟨rfl, rfl, rfl, Nat.le_refl _, fun _ _ => rfl⟩ | exact HW4.out | (go_grown; done)).trans (hb.mono (by first | omega | (simp; done) | (simp; omega)))
  clear hb lt0 c0_0 f0_0 c0_1 f0_1 c0_2 f0_2 c0_3 f0_3 c0_4 f0_4 c0_5 f0_5 c0_6 f0_6 c0_7 f0_7 hbw4
  have HH0_5 := Lib.hid hh0
  have lt0 := heap_lt hh0
  have c0_0 : w5.cell? ⟨w2.heap.size, 0, none⟩ = some (.string sc) := by rw [Lib.cell_of_heap hh0]; rfl
  have f0_0 : w5.frozen? ⟨w2.heap.size, 0, none⟩ = false := Lib.frozen_of_heap hh0 0
  have c0_1 : w5.cell? ⟨w2.heap.size, 1, none⟩ = some (.string us) := by rw [Lib.cell_of_heap hh0]; rfl
  have f0_1 : w5.frozen? ⟨w2.heap.size, 1, none⟩ = false := Lib.frozen_of_heap hh0 1
  have c0_2 : w5.cell? ⟨w2.heap.size, 2, none⟩ = some (.string ho) := by rw [Lib.cell_of_heap hh0]; rfl
  have f0_2 : w5.frozen? ⟨w2.heap.size, 2, none⟩ = false := Lib.frozen_of_heap hh0 2
  have c0_3 : w5.cell? ⟨w2.heap.size, 3, none⟩ = some (.string po) := by rw [Lib.cell_of_heap hh0]; rfl
  have f0_3 : w5.frozen? ⟨w2.heap.size, 3, none⟩ = false := Lib.frozen_of_heap hh0 3
  have c0_4 : w5.cell? ⟨w2.heap.size, 4, none⟩ = some (.string pa) := by rw [Lib.cell_of_heap hh0]; rfl
  have f0_4 : w5.frozen? ⟨w2.heap.size, 4, none⟩ = false := Lib.frozen_of_heap hh0 4
  have c0_5 : w5.cell? ⟨w2.heap.size, 5, none⟩ = some (.string qu) := by rw [Lib.cell_of_heap hh0]; rfl
  have f0_5 : w5.frozen? ⟨w2.heap.size, 5, none⟩ = false := Lib.frozen_of_heap hh0 5
  have c0_6 : w5.cell? ⟨w2.heap.size, 6, none⟩ = some (.bool hu) := by rw [Lib.cell_of_heap hh0]; rfl
  have f0_6 : w5.frozen? ⟨w2.heap.size, 6, none⟩ = false := Lib.frozen_of_heap hh0 6
  have c0_7 : w5.cell? ⟨w2.heap.size, 7, none⟩ = some (.bool hq) := by rw [Lib.cell_of_heap hh0]; rfl
  have f0_7 : w5.frozen? ⟨w2.heap.size, 7, none⟩ = false := Lib.frozen_of_heap hh0 7
  clear hh0
  have HH1_5 := Lib.hid hh1
  have lt1 := heap_lt hh1
  have c1_0 : w5.cell? ⟨w4.heap.size, 0, none⟩ = some (.string sc2) := by rw [Lib.cell_of_heap hh1]; rfl
  have c1_1 : w5.cell? ⟨w4.heap.size, 1, none⟩ = some (.string us2) := by rw [Lib.cell_of_heap hh1]; rfl
  have c1_2 : w5.cell? ⟨w4.heap.size, 2, none⟩ = some (.string ho2) := by rw [Lib.cell_of_heap hh1]; rfl
  have c1_3 : w5.cell? ⟨w4.heap.size, 3, none⟩ = some (.string po) := by rw [Lib.cell_of_heap hh1]; rfl
  have c1_4 : w5.cell? ⟨w4.heap.size, 4, none⟩ = some (.string pa2) := by rw [Lib.cell_of_heap hh1]; rfl
  have c1_5 : w5.cell? ⟨w4.heap.size, 5, none⟩ = some (.string qu2) := by rw [Lib.cell_of_heap hh1]; rfl
  have c1_6 : w5.cell? ⟨w4.heap.size, 6, none⟩ = some (.bool hu) := by rw [Lib.cell_of_heap hh1]; rfl
  have c1_7 : w5.cell? ⟨w4.heap.size, 7, none⟩ = some (.bool hq) := by rw [Lib.cell_of_heap hh1]; rfl
  clear hh1
  have sz5 := hbw5.size
  have HW5 := Lib.hid hbw5
  go_wp2_with fail
  refine (H5.out _).mono ?_; rintro e w6 ⟨rfl, hb⟩
  have hv0 := HH0_5.out
  have hh0 : w6.heap[w2.heap.size]? = some (.cells #[.string sc, .string us, .string ho, .string po, .string pa, .string qu, .bool hu, .bool hq] 23 (0, 0)) := (hb.block _ (heap_lt hv0)).trans hv0
  clear hv0
  have hv1 := HH1_5.out
  have hh1 : w6.heap[w4.heap.size]? = some (.cells #[.string sc2, .string us2, .string ho2, .string po, .string pa2, .string qu2, .bool hu, .bool hq] 23 (0, 0)) := (hb.block _ (heap_lt hv1)).trans hv1
  clear hv1
  have hbw6 : Below w.heap.size w w6 := (show Below w.heap.size w _ by first | exact HW5.out.trans ⟨rfl, rfl, rfl, Nat.le_refl _, fun _ _ => rfl⟩ | exact HW5.out | (go_grown; done)).trans (hb.mono (by first | omega | (simp; done) | (simp; omega)))
  clear hb lt0 c0_0 f0_0 c0_1 f0_1 c0_2 f0_2 c0_3 f0_3 c0_4 f0_4 c0_5 f0_5 c0_6 f0_6 c0_7 f0_7 lt1 c1_0 c1_1 c1_2 c1_3 c1_4 c1_5 c1_6 c1_7 hbw5
  have HH0_6 := Lib.hid hh0
  have lt0 := heap_lt hh0
  have c0_0 : w6.cell? ⟨w2.heap.size, 0, none⟩ = some (.string sc) := by rw [Lib.cell_of_heap hh0]; rfl
  have f0_0 : w6.frozen? ⟨w2.heap.size, 0, none⟩ = false := Lib.frozen_of_heap hh0 0
  have c0_1 : w6.cell? ⟨w2.heap.size, 1, none⟩ = some (.string us) := by rw [Lib.cell_of_heap hh0]; rfl
  have f0_1 : w6.frozen? ⟨w2.heap.size, 1, none⟩ = false := Lib.frozen_of_heap hh0 1
  have c0_2 : w6.cell? ⟨w2.heap.size, 2, none⟩ = some (.string ho) := by rw [Lib.cell_of_heap hh0]; rfl
  have f0_2 : w6.frozen? ⟨w2.heap.size, 2, none⟩ = false := Lib.frozen_of_heap hh0 2
  have c0_3 : w6.cell? ⟨w2.heap.size, 3, none⟩ = some (.string po) := by rw [Lib.cell_of_heap hh0]; rfl
  have f0_3 : w6.frozen? ⟨w2.heap.size, 3, none⟩ = false := Lib.frozen_of_heap hh0 3
  have c0_4 : w6.cell? ⟨w2.heap.size, 4, none⟩ = some (.string pa) := by rw [Lib.cell_of_heap hh0]; rfl
  have f0_4 : w6.frozen? ⟨w2.heap.size, 4, none⟩ = false := Lib.frozen_of_heap hh0 4
  have c0_5 : w6.cell? ⟨w2.heap.size, 5, none⟩ = some (.string qu) := by rw [Lib.cell_of_heap hh0]; rfl
  have f0_5 : w6.frozen? ⟨w2.heap.size, 5, none⟩ = false := Lib.frozen_of_heap hh0 5
  have c0_6 : w6.cell? ⟨w2.heap.size, 6, none⟩ = some (.bool hu) := by rw [Lib.cell_of_heap hh0]; rfl
  have f0_6 : w6.frozen? ⟨w2.heap.size, 6, none⟩ = false := Lib.frozen_of_heap hh0 6
  have c0_7 : w6.cell? ⟨w2.heap.size, 7, none⟩ = some (.bool hq) := by rw [Lib.cell_of_heap hh0]; rfl
  have f0_7 : w6.frozen? ⟨w2.heap.size, 7, none⟩ = false := Lib.frozen_of_heap hh0 7
  clear hh0
  have HH1_6 := Lib.hid hh1
  have lt1 := heap_lt hh1
  have c1_0 : w6.cell? ⟨w4.heap.size, 0, none⟩ = some (.string sc2) := by rw [Lib.cell_of_heap hh1]; rfl
  have c1_1 : w6.cell? ⟨w4.heap.size, 1, none⟩ = some (.string us2) := by rw [Lib.cell_of_heap hh1]; rfl
  have c1_2 : w6.cell? ⟨w4.heap.size, 2, none⟩ = some (.string ho2) := by rw [Lib.cell_of_heap hh1]; rfl
  have c1_3 : w6.cell? ⟨w4.heap.size, 3, none⟩ = some (.string po) := by rw [Lib.cell_of_heap hh1]; rfl
  have c1_4 : w6.cell? ⟨w4.heap.size, 4, none⟩ = some (.string pa2) := by rw [Lib.cell_of_heap hh1]; rfl
  have c1_5 : w6.cell? ⟨w4.heap.size, 5, none⟩ = some (.string qu2) := by rw [Lib.cell_of_heap hh1]; rfl
  have c1_6 : w6.cell? ⟨w4.heap.size, 6, none⟩ = some (.bool hu) := by rw [Lib.cell_of_heap hh1]; rfl
  have c1_7 : w6.cell? ⟨w4.heap.size, 7, none⟩ = some (.bool hq) := by rw [Lib.cell_of_heap hh1]; rfl
  clear hh1
  have sz6 := hbw6.size
  have HW6 := Lib.hid hbw6
  go_wp2_with fail
  refine (H6.out _).mono ?_; rintro e w7 ⟨rfl, hb⟩
  have hv0 := pset (i := 0) (HH0_6.out) (.string sc3) rfl
  have hh0 : w7.heap[w2.heap.size]? = some (.cells #[.string sc3, .string us, .string ho, .string po, .string pa, .string qu, .bool hu, .bool hq] 23 (0, 0)) := (hb.block _ (heap_lt hv0)).trans hv0
  clear hv0
  have hbw7 : Below w.heap.size w w7 := (show Below w.heap.size w _ by first | exact HW6.out.trans ⟨rfl, rfl, rfl, Nat.le_refl _, fun _ _ => rfl⟩ | exact HW6.out | (go_grown; done)).trans (hb.mono (by first | omega | (simp; done) | (simp; omega)))
  clear hb lt0 c0_0 f0_0 c0_1 f0_1 c0_2 f0_2 c0_3 f0_3 c0_4 f0_4 c0_5 f0_5 c0_6 f0_6 c0_7 f0_7 lt1 c1_0 c1_1 c1_2 c1_3 c1_4 c1_5 c1_6 c1_7 hbw6
  have HH0_7 := Lib.hid hh0
  have lt0 := heap_lt hh0
  have c0_0 : w7.cell? ⟨w2.heap.size, 0, none⟩ = some (.string sc3) := by rw [Lib.cell_of_heap hh0]; rfl
  have f0_0 : w7.frozen? ⟨w2.heap.size, 0, none⟩ = false := Lib.frozen_of_heap hh0 0
  have c0_1 : w7.cell? ⟨w2.heap.size, 1, none⟩ = some (.string us) := by rw [Lib.cell_of_heap hh0]; rfl
  have f0_1 : w7.frozen? ⟨w2.heap.size, 1, none⟩ = false := Lib.frozen_of_heap hh0 1
  have c0_2 : w7.cell? ⟨w2.heap.size, 2, none⟩ = some (.string ho) := by rw [Lib.cell_of_heap hh0]; rfl
  have f0_2 : w7.frozen? ⟨w2.heap.size, 2, none⟩ = false := Lib.frozen_of_heap hh0 2
  have c0_3 : w7.cell? ⟨w2.heap.size, 3, none⟩ = some (.string po) := by rw [Lib.cell_of_heap hh0]; rfl
  have f0_3 : w7.frozen? ⟨w2.heap.size, 3, none⟩ = false := Lib.frozen_of_heap hh0 3
  have c0_4 : w7.cell? ⟨w2.heap.size, 4, none⟩ = some (.string pa) := by rw [Lib.cell_of_heap hh0]; rfl
  have f0_4 : w7.frozen? ⟨w2.heap.size, 4, none⟩ = false := Lib.frozen_of_heap hh0 4
  have c0_5 : w7.cell? ⟨w2.heap.size, 5, none⟩ = some (.string qu) := by rw [Lib.cell_of_heap hh0]; rfl
  have f0_5 : w7.frozen? ⟨w2.heap.size, 5, none⟩ = false := Lib.frozen_of_heap hh0 5
  have c0_6 : w7.cell? ⟨w2.heap.size, 6, none⟩ = some (.bool hu) := by rw [Lib.cell_of_heap hh0]; rfl
  have f0_6 : w7.frozen? ⟨w2.heap.size, 6, none⟩ = false := Lib.frozen_of_heap hh0 6
  have c0_7 : w7.cell? ⟨w2.heap.size, 7, none⟩ = some (.bool hq) := by rw [Lib.cell_of_heap hh0]; rfl
  have f0_7 : w7.frozen? ⟨w2.heap.size, 7, none⟩ = false := Lib.frozen_of_heap hh0 7
  clear hh0
  have sz7 := hbw7.size
  have HW7 := Lib.hid hbw7
  go_wp2_with fail
  refine (H7.out _).mono ?_; rintro e w8 ⟨rfl, hb⟩
  have hbw8 : Below w.heap.size w w8 := (show Below w.heap.size w _ by first | exact HW7.out.trans ⟨rfl, rfl, rfl, Nat.le_refl _, fun _ _ => rfl⟩ | exact HW7.out | (go_grown; done)).trans (hb.mono (by first | omega | (simp; done) | (simp; omega)))
  clear hb lt0 c0_0 f0_0 c0_1 f0_1 c0_2 f0_2 c0_3 f0_3 c0_4 f0_4 c0_5 f0_5 c0_6 f0_6 c0_7 f0_7 hbw7
  have sz8 := hbw8.size
  have HW8 := Lib.hid hbw8
  go_wp2_with fail
  go_ret
  exact ⟨rfl, HW8.out⟩
theorem one_walk (s : ByteArray) (w : World) :
    Calls Tryz.prog 4 #[.string s] w fun e w' => e = .returned (.bool true) ∧ Below w.heap.size w w' := by
  by_cases hs : s.size ≤ 3000
  · obtain ⟨l, hl⟩ : ∃ l, s.data.toList = l := ⟨_, rfl⟩
    obtain rfl : s = bs l := bs_of s l hl
    have hll : l.length ≤ 3000 := by rw [← bs_size]; exact hs
    have H1 : Does 5 #[.string (bs l)] (parseV l) := fun w => parse_any (bs l) (by omega) w
    have H2 : Does 7 #[.string (bs l)] (canonV l) := fun w => canon_any (bs l) (by omega) w
    cases hok : parseOk l with
    | false =>
      unfold parseV zeroA at H1
      unfold canonV at H2
      rw [hok] at H1 H2
      exact one_no (bs l) hs (Lib.hid H1) (Lib.hid H2) w
    | true =>
      have hm : mayP l = true := by unfold parseOk at hok; simp only [Bool.and_eq_true] at hok; exact hok.2
      obtain ⟨m2, i1, i2, i3, i5, i6⟩ := may_plain hm
      obtain ⟨k0, k1, k2, k3, k4, k5, k6, k7, k8⟩ := told_parts m2
      obtain ⟨m3, it⟩ := may_turn hm
      obtain ⟨t0, t1, t2, t3, t4, t5, t6, t7, t8⟩ := told_parts m3
      have hcl : (canonL l).length ≤ l.length := by
        have q1 := plain_le lowB (scP l)
        have q2 := plain_le id (usP l)
        have q3 := plain_le lowB (hoP l)
        have q5 := plain_le id (paP l)
        have q6 := plain_le id (quP l)
        have := tell_le (po := poP l) (huP l) (hqP l) q1 q2 q3 q5 q6
        have hp := parse_tell l hok
        unfold canonL
        unfold tellP at hp
        rcases hp with hp | ⟨_, hp⟩
        · rw [hp] at this; exact this
        · omega
      have hp := parts_le l
      have H3 : Does 5 #[.string (bs (canonL l))] (parseV (canonL l)) := fun w => parse_any (bs (canonL l)) (by rw [bs_size]; omega) w
      have H4 : Does 7 #[.string (bs (canonL l))] (canonV (canonL l)) := fun w => canon_any (bs (canonL l)) (by rw [bs_size]; omega) w
      have H5 : Does 10 #[.string (bs (scP l))] (.string (bs ((scP l).map turnB))) := fun w => turned_any (bs (scP l)) (by rw [bs_size]; omega) w
      have hT3 : (tellL ((scP l).map turnB) (usP l) (hoP l) (poP l) (paP l) (quP l) (huP l) (hqP l)).length ≤ 2048 := by
        have := m3
        unfold mayL at this
        simp only [Bool.and_eq_true, decide_eq_true_eq] at this
        exact this.2
      have H6 : Does 11 #[addrV ((scP l).map turnB) (usP l) (hoP l) (poP l) (paP l) (quP l) (huP l) (hqP l)] (.tuple #[.string (bs (tellL ((scP l).map turnB) (usP l) (hoP l) (poP l) (paP l) (quP l) (huP l) (hqP l))), .int .i64 0]) := fun w => by
        refine (text_any (bs ((scP l).map turnB)) (bs (usP l)) (bs (hoP l)) (bs (poP l)) (bs (paP l)) (bs (quP l)) (huP l) (hqP l) (by rw [bs_size, List.length_map]; omega) (by rw [bs_size]; omega) (by rw [bs_size]; omega) (by rw [bs_size]; omega) (by rw [bs_size]; omega) (by rw [bs_size]; omega) w).mono ?_
        rintro e w' ⟨he, hb⟩
        refine ⟨?_, hb⟩
        rw [he]
        exact congrArg Ending.returned (if_pos m3)
      have H7 : Does 7 #[.string (bs (tellL ((scP l).map turnB) (usP l) (hoP l) (poP l) (paP l) (quP l) (huP l) (hqP l)))] (canonV (tellL ((scP l).map turnB) (usP l) (hoP l) (poP l) (paP l) (quP l) (huP l) (hqP l))) := fun w => canon_any (bs _) (by rw [bs_size]; omega) w
      have e7 : canonV (tellL ((scP l).map turnB) (usP l) (hoP l) (poP l) (paP l) (quP l) (huP l) (hqP l)) = .tuple #[.string (bs (canonL l)), .int .i64 0] := by
        unfold canonV
        rw [t0]
        unfold canonL
        rw [t1, t2, t3, t4, t5, t6, t7, t8, it]; rfl
      have e4 : canonV (canonL l) = .tuple #[.string (bs (canonL l)), .int .i64 0] := by
        have e : canonL (canonL l) = canonL l := by
          unfold canonL at *
          rw [k1, k2, k3, k4, k5, k6, k7, k8, i1, i2, i3, i5, i6]
        unfold canonV
        rw [e]
        unfold canonL at *
        rw [k0]; rfl
      have e3 : parseV (canonL l) = .tuple #[addrV (plainL lowB (scP l)) (plainL id (usP l)) (plainL lowB (hoP l)) (poP l) (plainL id (paP l)) (plainL id (quP l)) (huP l) (hqP l), .int .i64 0] := by
        unfold parseV canonL
        rw [k0, k1, k2, k3, k4, k5, k6, k7, k8]; rfl
      rw [e7] at H7
      rw [e4] at H4
      rw [e3] at H3
      unfold parseV addrV at H1
      unfold canonV at H2
      rw [hok] at H1 H2
      exact one_go (bs l) (bs (scP l)) (bs (usP l)) (bs (hoP l)) (bs (poP l)) (bs (paP l)) (bs (quP l)) (bs (plainL lowB (scP l))) (bs (plainL id (usP l))) (bs (plainL lowB (hoP l))) (bs (plainL id (paP l))) (bs (plainL id (quP l))) (bs ((scP l).map turnB)) (bs (canonL l)) (bs (tellL ((scP l).map turnB) (usP l) (hoP l) (poP l) (paP l) (quP l) (huP l) (hqP l))) (huP l) (hqP l) hs
        (Lib.hid H1) (Lib.hid H2) (Lib.hid H3) (Lib.hid H4) (by rw [bs_size, bs_size]; exact hcl) (Lib.hid H5) (Lib.hid H6) (Lib.hid H7) w
  · exact one_big s (by omega) w
end Go.Proofs.YtcocjmbhbddgiaaGreatDoor
