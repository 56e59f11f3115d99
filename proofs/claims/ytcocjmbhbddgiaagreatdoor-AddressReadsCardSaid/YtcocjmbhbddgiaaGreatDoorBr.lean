/- The walk of the law AddressReads. -/
import Derived.Test.YtcocjmbhbddgiaaGreatDoorBp
set_option linter.unusedSimpArgs false
set_option linter.unusedVariables false
namespace Go.Proofs.YtcocjmbhbddgiaaGreatDoor
open Go.RowKit
set_option maxRecDepth 100000 in
theorem reads_big (s : ByteArray) (hs : 3000 < s.size) (w : World) :
    Calls Tryz.prog 3 #[.string s] w fun e w' => e = .returned (.bool true) ∧ Below w.heap.size w w' := by
  go_enter Tryz.func3, Tryz.ntmps3
  go_wp2_with fail
  go_ret
  exact ⟨rfl, Below.refl _ _⟩
set_option maxRecDepth 100000 in
set_option maxHeartbeats 2000000 in
theorem reads_go (s sc us ho po pa qu cx : ByteArray) (hu hq : Bool) (e0 g0 : Int) (hs : s.size ≤ 3000) (H1 : Hid (Does 5 #[.string s] (.tuple #[.agg #[.string sc, .string us, .string ho, .string po, .string pa, .string qu, .bool hu, .bool hq], .int .i64 e0]))) (H2 : Hid (Does 6 #[.string s] (.tuple #[.agg #[.string sc, .string us, .string ho, .string po, .string pa, .string qu, .bool hu, .bool hq], .int .i64 e0])))
    (H3 : Hid (Does 7 #[.string s] (.tuple #[.string cx, .int .i64 g0]))) (H4 : Hid (Does 8 #[.string s] (.tuple #[.string cx, .int .i64 g0]))) (w : World) :
    Calls Tryz.prog 3 #[.string s] w fun e w' => e = .returned (.bool true) ∧ Below w.heap.size w w' := by
  go_enter Tryz.func3, Tryz.ntmps3
  go_wp2_with fail
  refine (H1.out _).mono ?_; rintro e w1 ⟨rfl, hb⟩
  have hbw1 : Below w.heap.size w w1 := (show Below w.heap.size w _ by first | exact Below.refl _ _ | (go_grown; done)).trans (hb.mono (by first | omega | (simp; done) | (simp; omega)))
  clear hb
  have sz1 := hbw1.size
  have HW1 := Lib.hid hbw1
  go_wp2_with fail
  refine (H2.out _).mono ?_; rintro e w2 ⟨rfl, hb⟩
  have hh0 : w2.heap[w1.heap.size]? = some (.cells #[.string sc, .string us, .string ho, .string po, .string pa, .string qu, .bool hu, .bool hq] 23 (0, 0)) := (hb.block _ (by first | omega | (simp; done) | (simp; omega))).trans (heap_new _ _ _ (by first | rfl | simp))
  have hbw2 : Below w.heap.size w w2 := (show Below w.heap.size w _ by first | exact HW1.out.trans ⟨rfl, rfl, rfl, Nat.le_refl _, fun _ _ => rfl⟩ | exact HW1.out | (go_grown; done)).trans (hb.mono (by first | omega | (simp; done) | (simp; omega)))
  clear hb hbw1
  have HH0_2 := Lib.hid hh0
  have lt0 := heap_lt hh0
  have c0_0 : w2.cell? ⟨w1.heap.size, 0, none⟩ = some (.string sc) := by rw [Lib.cell_of_heap hh0]; rfl
  have c0_1 : w2.cell? ⟨w1.heap.size, 1, none⟩ = some (.string us) := by rw [Lib.cell_of_heap hh0]; rfl
  have c0_2 : w2.cell? ⟨w1.heap.size, 2, none⟩ = some (.string ho) := by rw [Lib.cell_of_heap hh0]; rfl
  have c0_3 : w2.cell? ⟨w1.heap.size, 3, none⟩ = some (.string po) := by rw [Lib.cell_of_heap hh0]; rfl
  have c0_4 : w2.cell? ⟨w1.heap.size, 4, none⟩ = some (.string pa) := by rw [Lib.cell_of_heap hh0]; rfl
  have c0_5 : w2.cell? ⟨w1.heap.size, 5, none⟩ = some (.string qu) := by rw [Lib.cell_of_heap hh0]; rfl
  have c0_6 : w2.cell? ⟨w1.heap.size, 6, none⟩ = some (.bool hu) := by rw [Lib.cell_of_heap hh0]; rfl
  have c0_7 : w2.cell? ⟨w1.heap.size, 7, none⟩ = some (.bool hq) := by rw [Lib.cell_of_heap hh0]; rfl
  clear hh0
  have sz2 := hbw2.size
  have HW2 := Lib.hid hbw2
  go_wp2_with fail
  refine (H3.out _).mono ?_; rintro e w3 ⟨rfl, hb⟩
  have hv0 := heap_old (o' := (.cells #[.string sc, .string us, .string ho, .string po, .string pa, .string qu, .bool hu, .bool hq] 23 (0, 0))) (HH0_2.out)
  have hh0 : w3.heap[w1.heap.size]? = some (.cells #[.string sc, .string us, .string ho, .string po, .string pa, .string qu, .bool hu, .bool hq] 23 (0, 0)) := (hb.block _ (heap_lt hv0)).trans hv0
  clear hv0
  have hh1 : w3.heap[w2.heap.size]? = some (.cells #[.string sc, .string us, .string ho, .string po, .string pa, .string qu, .bool hu, .bool hq] 23 (0, 0)) := (hb.block _ (by first | omega | (simp; done) | (simp; omega))).trans (heap_new _ _ _ (by first | rfl | simp))
  have hbw3 : Below w.heap.size w w3 := (show Below w.heap.size w _ by first | exact HW2.out.trans ⟨rfl, rfl, rfl, Nat.le_refl _, fun _ _ => rfl⟩ | exact HW2.out | (go_grown; done)).trans (hb.mono (by first | omega | (simp; done) | (simp; omega)))
  clear hb lt0 c0_0 c0_1 c0_2 c0_3 c0_4 c0_5 c0_6 c0_7 hbw2
  have HH0_3 := Lib.hid hh0
  have lt0 := heap_lt hh0
  have c0_0 : w3.cell? ⟨w1.heap.size, 0, none⟩ = some (.string sc) := by rw [Lib.cell_of_heap hh0]; rfl
  have c0_1 : w3.cell? ⟨w1.heap.size, 1, none⟩ = some (.string us) := by rw [Lib.cell_of_heap hh0]; rfl
  have c0_2 : w3.cell? ⟨w1.heap.size, 2, none⟩ = some (.string ho) := by rw [Lib.cell_of_heap hh0]; rfl
  have c0_3 : w3.cell? ⟨w1.heap.size, 3, none⟩ = some (.string po) := by rw [Lib.cell_of_heap hh0]; rfl
  have c0_4 : w3.cell? ⟨w1.heap.size, 4, none⟩ = some (.string pa) := by rw [Lib.cell_of_heap hh0]; rfl
  have c0_5 : w3.cell? ⟨w1.heap.size, 5, none⟩ = some (.string qu) := by rw [Lib.cell_of_heap hh0]; rfl
  have c0_6 : w3.cell? ⟨w1.heap.size, 6, none⟩ = some (.bool hu) := by rw [Lib.cell_of_heap hh0]; rfl
  have c0_7 : w3.cell? ⟨w1.heap.size, 7, none⟩ = some (.bool hq) := by rw [Lib.cell_of_heap hh0]; rfl
  clear hh0
  have HH1_3 := Lib.hid hh1
  have lt1 := heap_lt hh1
  have c1_0 : w3.cell? ⟨w2.heap.size, 0, none⟩ = some (.string sc) := by rw [Lib.cell_of_heap hh1]; rfl
  have c1_1 : w3.cell? ⟨w2.heap.size, 1, none⟩ = some (.string us) := by rw [Lib.cell_of_heap hh1]; rfl
  have c1_2 : w3.cell? ⟨w2.heap.size, 2, none⟩ = some (.string ho) := by rw [Lib.cell_of_heap hh1]; rfl
  have c1_3 : w3.cell? ⟨w2.heap.size, 3, none⟩ = some (.string po) := by rw [Lib.cell_of_heap hh1]; rfl
  have c1_4 : w3.cell? ⟨w2.heap.size, 4, none⟩ = some (.string pa) := by rw [Lib.cell_of_heap hh1]; rfl
  have c1_5 : w3.cell? ⟨w2.heap.size, 5, none⟩ = some (.string qu) := by rw [Lib.cell_of_heap hh1]; rfl
  have c1_6 : w3.cell? ⟨w2.heap.size, 6, none⟩ = some (.bool hu) := by rw [Lib.cell_of_heap hh1]; rfl
  have c1_7 : w3.cell? ⟨w2.heap.size, 7, none⟩ = some (.bool hq) := by rw [Lib.cell_of_heap hh1]; rfl
  clear hh1
  have sz3 := hbw3.size
  have HW3 := Lib.hid hbw3
  go_wp2_with fail
  refine (H4.out _).mono ?_; rintro e w4 ⟨rfl, hb⟩
  have hv0 := HH0_3.out
  have hh0 : w4.heap[w1.heap.size]? = some (.cells #[.string sc, .string us, .string ho, .string po, .string pa, .string qu, .bool hu, .bool hq] 23 (0, 0)) := (hb.block _ (heap_lt hv0)).trans hv0
  clear hv0
  have hv1 := HH1_3.out
  have hh1 : w4.heap[w2.heap.size]? = some (.cells #[.string sc, .string us, .string ho, .string po, .string pa, .string qu, .bool hu, .bool hq] 23 (0, 0)) := (hb.block _ (heap_lt hv1)).trans hv1
  clear hv1
  have hbw4 : Below w.heap.size w w4 := (show Below w.heap.size w _ by first | exact HW3.out.trans ⟨rfl, rfl, rfl, Nat.le_refl _, fun _ _ => rfl⟩ | exact HW3.out | (go_grown; done)).trans (hb.mono (by first | omega | (simp; done) | (simp; omega)))
  clear hb lt0 c0_0 c0_1 c0_2 c0_3 c0_4 c0_5 c0_6 c0_7 lt1 c1_0 c1_1 c1_2 c1_3 c1_4 c1_5 c1_6 c1_7 hbw3
  have HH0_4 := Lib.hid hh0
  have lt0 := heap_lt hh0
  have c0_0 : w4.cell? ⟨w1.heap.size, 0, none⟩ = some (.string sc) := by rw [Lib.cell_of_heap hh0]; rfl
  have c0_1 : w4.cell? ⟨w1.heap.size, 1, none⟩ = some (.string us) := by rw [Lib.cell_of_heap hh0]; rfl
  have c0_2 : w4.cell? ⟨w1.heap.size, 2, none⟩ = some (.string ho) := by rw [Lib.cell_of_heap hh0]; rfl
  have c0_3 : w4.cell? ⟨w1.heap.size, 3, none⟩ = some (.string po) := by rw [Lib.cell_of_heap hh0]; rfl
  have c0_4 : w4.cell? ⟨w1.heap.size, 4, none⟩ = some (.string pa) := by rw [Lib.cell_of_heap hh0]; rfl
  have c0_5 : w4.cell? ⟨w1.heap.size, 5, none⟩ = some (.string qu) := by rw [Lib.cell_of_heap hh0]; rfl
  have c0_6 : w4.cell? ⟨w1.heap.size, 6, none⟩ = some (.bool hu) := by rw [Lib.cell_of_heap hh0]; rfl
  have c0_7 : w4.cell? ⟨w1.heap.size, 7, none⟩ = some (.bool hq) := by rw [Lib.cell_of_heap hh0]; rfl
  clear hh0
  have HH1_4 := Lib.hid hh1
  have lt1 := heap_lt hh1
  have c1_0 : w4.cell? ⟨w2.heap.size, 0, none⟩ = some (.string sc) := by rw [Lib.cell_of_heap hh1]; rfl
  have c1_1 : w4.cell? ⟨w2.heap.size, 1, none⟩ = some (.string us) := by rw [Lib.cell_of_heap hh1]; rfl
  have c1_2 : w4.cell? ⟨w2.heap.size, 2, none⟩ = some (.string ho) := by rw [Lib.cell_of_heap hh1]; rfl
  have c1_3 : w4.cell? ⟨w2.heap.size, 3, none⟩ = some (.string po) := by rw [Lib.cell_of_heap hh1]; rfl
  have c1_4 : w4.cell? ⟨w2.heap.size, 4, none⟩ = some (.string pa) := by rw [Lib.cell_of_heap hh1]; rfl
  have c1_5 : w4.cell? ⟨w2.heap.size, 5, none⟩ = some (.string qu) := by rw [Lib.cell_of_heap hh1]; rfl
  have c1_6 : w4.cell? ⟨w2.heap.size, 6, none⟩ = some (.bool hu) := by rw [Lib.cell_of_heap hh1]; rfl
  have c1_7 : w4.cell? ⟨w2.heap.size, 7, none⟩ = some (.bool hq) := by rw [Lib.cell_of_heap hh1]; rfl
  clear hh1
  have sz4 := hbw4.size
  have HW4 := Lib.hid hbw4
  go_wp2_with fail
  go_ret
  exact ⟨rfl, HW4.out⟩
theorem reads_walk (s : ByteArray) (w : World) :
    Calls Tryz.prog 3 #[.string s] w fun e w' => e = .returned (.bool true) ∧ Below w.heap.size w w' := by
  by_cases hs : s.size ≤ 3000
  · have H1 : Does 5 #[.string s] (parseV s.data.toList) := fun w => parse_any s (by omega) w
    have H2 : Does 6 #[.string s] (parseV s.data.toList) := fun w => rparse_any s (by omega) w
    have H3 : Does 7 #[.string s] (canonV s.data.toList) := fun w => canon_any s (by omega) w
    have H4 : Does 8 #[.string s] (canonV s.data.toList) := fun w => rcanon_any s (by omega) w
    unfold parseV zeroA addrV at H1 H2
    unfold canonV at H3 H4
    cases hok : parseOk s.data.toList with
    | true =>
      rw [hok] at H1 H2 H3 H4
      exact reads_go s _ _ _ _ _ _ _ _ _ _ _ hs (Lib.hid H1) (Lib.hid H2) (Lib.hid H3) (Lib.hid H4) w
    | false =>
      rw [hok] at H1 H2 H3 H4
      exact reads_go s _ _ _ _ _ _ _ _ _ _ _ hs (Lib.hid H1) (Lib.hid H2) (Lib.hid H3) (Lib.hid H4) w
  · exact reads_big s (by omega) w
end Go.Proofs.YtcocjmbhbddgiaaGreatDoor
