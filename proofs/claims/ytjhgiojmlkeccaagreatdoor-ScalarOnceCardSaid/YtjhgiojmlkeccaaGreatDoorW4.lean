/- Walks and plain laws of this proof, joined from smaller texts (4). -/
import Derived.Test.YtjhgiojmlkeccaaGreatDoorRows
import Derived.ProofKit
import Derived.OpenShut
import Derived.Lib.SmallJoins
import Derived.WalkKit
import Derived.WalkSpells
import Derived.Handy
import Derived.Lib.Hide
import Derived.Deep.Light
import Derived.Outline
import Derived.Deep.DeepCutAuto
import Derived.Laws.Bits64b
import Derived.Deep.LoopGhost
import Derived.Laws.IdiomStrings
import Derived.Deep.RegionWith
import Derived.Deep.RegionHeld3
import Derived.Shelf.Strings.Builder1
import Derived.Lib.OthersKept
import Derived.Test.YtjhgiojmlkeccaaGreatDoorShelf
import Derived.Test.YtjhgiojmlkeccaaGreatDoorShelg
import Derived.Shelf.Strings.SlTrimAscii
import Derived.Test.YtjhgiojmlkeccaaGreatDoorW3
set_option linter.unusedSimpArgs false
set_option linter.unusedVariables false
namespace Go.Proofs.YtjhgiojmlkeccaaGreatDoor
open Go.RowKit Go.Shelf
set_option maxRecDepth 100000 in
set_option maxHeartbeats 4000000 in
theorem once16_great (k : Int) (ka : Int) (nma txa : ByteArray) (na ma : Int) (w : World) (hE : EnvS w) (HG : Hid (DoesU w 7 #[.agg #[.int .u8 ka, .string nma, .string txa, .int .i64 na, .int .i64 ma], .agg #[.int .u8 ka, .string nma, .string txa, .int .i64 na, .int .i64 ma]] (.bool true))) :
    Calls Tryz.prog 3 #[.int .u8 k, .agg #[.int .u8 ka, .string nma, .string txa, .int .i64 na, .int .i64 ma]] w fun e w' => e = .returned (.bool true) ∧ Below w.heap.size w w' := by
  have HA : Hid (DoesU w 6 #[] (.bool true)) := Lib.hid fun W hW => lalive16 W (hE.below hW)
  go_enter Tryz.func3, Tryz.ntmps3
  go_wp2_with fail
  refine (HA.out _ (by first | exact Below.refl _ _ | (go_grown; done))).mono ?_; rintro e w1 ⟨rfl, hb⟩
  have hh0 : w1.heap[w.heap.size]? = some (.cells #[.int .u8 ka, .string nma, .string txa, .int .i64 na, .int .i64 ma] 23 (0, 0)) := (hb.block _ (by first | omega | (simp; done) | (simp; omega))).trans (heap_new _ _ _ (by first | rfl | simp))
  have hbw1 : Below w.heap.size w w1 := (show Below w.heap.size w _ by first | exact Below.refl _ _ | (go_grown; done)).trans (hb.mono (by first | omega | (simp; done) | (simp; omega)))
  clear hb
  have HH0_1 := Lib.hid hh0
  have lt0 := heap_lt hh0
  have c0_0 : w1.cell? ⟨w.heap.size, 0, none⟩ = some (.int .u8 ka) := by rw [Lib.cell_of_heap hh0]; rfl
  have f0_0 : w1.frozen? ⟨w.heap.size, 0, none⟩ = false := Lib.frozen_of_heap hh0 0
  have c0_1 : w1.cell? ⟨w.heap.size, 1, none⟩ = some (.string nma) := by rw [Lib.cell_of_heap hh0]; rfl
  have f0_1 : w1.frozen? ⟨w.heap.size, 1, none⟩ = false := Lib.frozen_of_heap hh0 1
  have c0_2 : w1.cell? ⟨w.heap.size, 2, none⟩ = some (.string txa) := by rw [Lib.cell_of_heap hh0]; rfl
  have f0_2 : w1.frozen? ⟨w.heap.size, 2, none⟩ = false := Lib.frozen_of_heap hh0 2
  have c0_3 : w1.cell? ⟨w.heap.size, 3, none⟩ = some (.int .i64 na) := by rw [Lib.cell_of_heap hh0]; rfl
  have f0_3 : w1.frozen? ⟨w.heap.size, 3, none⟩ = false := Lib.frozen_of_heap hh0 3
  have c0_4 : w1.cell? ⟨w.heap.size, 4, none⟩ = some (.int .i64 ma) := by rw [Lib.cell_of_heap hh0]; rfl
  have f0_4 : w1.frozen? ⟨w.heap.size, 4, none⟩ = false := Lib.frozen_of_heap hh0 4
  clear hh0
  have sz1 := hbw1.size
  have HW1 := Lib.hid hbw1
  go_wp2_with fail
  refine (HG.out _ (by first | exact HW1.out | exact HW1.out.trans ⟨rfl, rfl, rfl, Nat.le_refl _, fun _ _ => rfl⟩ | (go_grown; done))).mono ?_; rintro e w2 ⟨rfl, hb⟩
  have hv0 := HH0_1.out
  have hh0 : w2.heap[w.heap.size]? = some (.cells #[.int .u8 ka, .string nma, .string txa, .int .i64 na, .int .i64 ma] 23 (0, 0)) := (hb.block _ (heap_lt hv0)).trans hv0
  clear hv0
  have hbw2 : Below w.heap.size w w2 := (show Below w.heap.size w _ by first | exact HW1.out.trans ⟨rfl, rfl, rfl, Nat.le_refl _, fun _ _ => rfl⟩ | exact HW1.out | (go_grown; done)).trans (hb.mono (by first | omega | (simp; done) | (simp; omega)))
  clear hb lt0 c0_0 f0_0 c0_1 f0_1 c0_2 f0_2 c0_3 f0_3 c0_4 f0_4 hbw1
  have HH0_2 := Lib.hid hh0
  have lt0 := heap_lt hh0
  have c0_0 : w2.cell? ⟨w.heap.size, 0, none⟩ = some (.int .u8 ka) := by rw [Lib.cell_of_heap hh0]; rfl
  have f0_0 : w2.frozen? ⟨w.heap.size, 0, none⟩ = false := Lib.frozen_of_heap hh0 0
  have c0_1 : w2.cell? ⟨w.heap.size, 1, none⟩ = some (.string nma) := by rw [Lib.cell_of_heap hh0]; rfl
  have f0_1 : w2.frozen? ⟨w.heap.size, 1, none⟩ = false := Lib.frozen_of_heap hh0 1
  have c0_2 : w2.cell? ⟨w.heap.size, 2, none⟩ = some (.string txa) := by rw [Lib.cell_of_heap hh0]; rfl
  have f0_2 : w2.frozen? ⟨w.heap.size, 2, none⟩ = false := Lib.frozen_of_heap hh0 2
  have c0_3 : w2.cell? ⟨w.heap.size, 3, none⟩ = some (.int .i64 na) := by rw [Lib.cell_of_heap hh0]; rfl
  have f0_3 : w2.frozen? ⟨w.heap.size, 3, none⟩ = false := Lib.frozen_of_heap hh0 3
  have c0_4 : w2.cell? ⟨w.heap.size, 4, none⟩ = some (.int .i64 ma) := by rw [Lib.cell_of_heap hh0]; rfl
  have f0_4 : w2.frozen? ⟨w.heap.size, 4, none⟩ = false := Lib.frozen_of_heap hh0 4
  clear hh0
  have sz2 := hbw2.size
  have HW2 := Lib.hid hbw2
  go_wp2_with fail
  go_ret
  exact ⟨rfl, by first | exact HW2.out | (go_grown; done)⟩
set_option maxRecDepth 100000 in
set_option maxHeartbeats 4000000 in
theorem once16_low (ka : Int) (nma txa : ByteArray) (na ma : Int) (w : World) (hE : EnvS w) (HG : Hid (DoesU w 7 #[.agg #[.int .u8 ka, .string nma, .string txa, .int .i64 na, .int .i64 ma], .agg #[.int .u8 ka, .string nma, .string txa, .int .i64 na, .int .i64 ma]] (.bool false))) (H1 : Hid (DoesU w 8 #[.int .u8 0, .agg #[.int .u8 ka, .string nma, .string txa, .int .i64 na, .int .i64 ma]] (.tuple #[.agg #[.int .u8 0, .string ⟨#[]⟩, .string ⟨#[]⟩, .int .i64 0, .int .i64 0], .int .i64 2]))) :
    Calls Tryz.prog 3 #[.int .u8 0, .agg #[.int .u8 ka, .string nma, .string txa, .int .i64 na, .int .i64 ma]] w fun e w' => e = .returned (.bool true) ∧ Below w.heap.size w w' := by
  have HA : Hid (DoesU w 6 #[] (.bool true)) := Lib.hid fun W hW => lalive16 W (hE.below hW)
  go_enter Tryz.func3, Tryz.ntmps3
  go_wp2_with fail
  refine (HA.out _ (by first | exact Below.refl _ _ | (go_grown; done))).mono ?_; rintro e w1 ⟨rfl, hb⟩
  have hh0 : w1.heap[w.heap.size]? = some (.cells #[.int .u8 ka, .string nma, .string txa, .int .i64 na, .int .i64 ma] 23 (0, 0)) := (hb.block _ (by first | omega | (simp; done) | (simp; omega))).trans (heap_new _ _ _ (by first | rfl | simp))
  have hbw1 : Below w.heap.size w w1 := (show Below w.heap.size w _ by first | exact Below.refl _ _ | (go_grown; done)).trans (hb.mono (by first | omega | (simp; done) | (simp; omega)))
  clear hb
  have HH0_1 := Lib.hid hh0
  have lt0 := heap_lt hh0
  have c0_0 : w1.cell? ⟨w.heap.size, 0, none⟩ = some (.int .u8 ka) := by rw [Lib.cell_of_heap hh0]; rfl
  have f0_0 : w1.frozen? ⟨w.heap.size, 0, none⟩ = false := Lib.frozen_of_heap hh0 0
  have c0_1 : w1.cell? ⟨w.heap.size, 1, none⟩ = some (.string nma) := by rw [Lib.cell_of_heap hh0]; rfl
  have f0_1 : w1.frozen? ⟨w.heap.size, 1, none⟩ = false := Lib.frozen_of_heap hh0 1
  have c0_2 : w1.cell? ⟨w.heap.size, 2, none⟩ = some (.string txa) := by rw [Lib.cell_of_heap hh0]; rfl
  have f0_2 : w1.frozen? ⟨w.heap.size, 2, none⟩ = false := Lib.frozen_of_heap hh0 2
  have c0_3 : w1.cell? ⟨w.heap.size, 3, none⟩ = some (.int .i64 na) := by rw [Lib.cell_of_heap hh0]; rfl
  have f0_3 : w1.frozen? ⟨w.heap.size, 3, none⟩ = false := Lib.frozen_of_heap hh0 3
  have c0_4 : w1.cell? ⟨w.heap.size, 4, none⟩ = some (.int .i64 ma) := by rw [Lib.cell_of_heap hh0]; rfl
  have f0_4 : w1.frozen? ⟨w.heap.size, 4, none⟩ = false := Lib.frozen_of_heap hh0 4
  clear hh0
  have sz1 := hbw1.size
  have HW1 := Lib.hid hbw1
  go_wp2_with fail
  refine (HG.out _ (by first | exact HW1.out | exact HW1.out.trans ⟨rfl, rfl, rfl, Nat.le_refl _, fun _ _ => rfl⟩ | (go_grown; done))).mono ?_; rintro e w2 ⟨rfl, hb⟩
  have hv0 := HH0_1.out
  have hh0 : w2.heap[w.heap.size]? = some (.cells #[.int .u8 ka, .string nma, .string txa, .int .i64 na, .int .i64 ma] 23 (0, 0)) := (hb.block _ (heap_lt hv0)).trans hv0
  clear hv0
  have hbw2 : Below w.heap.size w w2 := (show Below w.heap.size w _ by first | exact HW1.out.trans ⟨rfl, rfl, rfl, Nat.le_refl _, fun _ _ => rfl⟩ | exact HW1.out | (go_grown; done)).trans (hb.mono (by first | omega | (simp; done) | (simp; omega)))
  clear hb lt0 c0_0 f0_0 c0_1 f0_1 c0_2 f0_2 c0_3 f0_3 c0_4 f0_4 hbw1
  have HH0_2 := Lib.hid hh0
  have lt0 := heap_lt hh0
  have c0_0 : w2.cell? ⟨w.heap.size, 0, none⟩ = some (.int .u8 ka) := by rw [Lib.cell_of_heap hh0]; rfl
  have f0_0 : w2.frozen? ⟨w.heap.size, 0, none⟩ = false := Lib.frozen_of_heap hh0 0
  have c0_1 : w2.cell? ⟨w.heap.size, 1, none⟩ = some (.string nma) := by rw [Lib.cell_of_heap hh0]; rfl
  have f0_1 : w2.frozen? ⟨w.heap.size, 1, none⟩ = false := Lib.frozen_of_heap hh0 1
  have c0_2 : w2.cell? ⟨w.heap.size, 2, none⟩ = some (.string txa) := by rw [Lib.cell_of_heap hh0]; rfl
  have f0_2 : w2.frozen? ⟨w.heap.size, 2, none⟩ = false := Lib.frozen_of_heap hh0 2
  have c0_3 : w2.cell? ⟨w.heap.size, 3, none⟩ = some (.int .i64 na) := by rw [Lib.cell_of_heap hh0]; rfl
  have f0_3 : w2.frozen? ⟨w.heap.size, 3, none⟩ = false := Lib.frozen_of_heap hh0 3
  have c0_4 : w2.cell? ⟨w.heap.size, 4, none⟩ = some (.int .i64 ma) := by rw [Lib.cell_of_heap hh0]; rfl
  have f0_4 : w2.frozen? ⟨w.heap.size, 4, none⟩ = false := Lib.frozen_of_heap hh0 4
  clear hh0
  have sz2 := hbw2.size
  have HW2 := Lib.hid hbw2
  go_wp2_with fail
  refine (H1.out _ (by first | exact HW2.out | exact HW2.out.trans ⟨rfl, rfl, rfl, Nat.le_refl _, fun _ _ => rfl⟩ | (go_grown; done))).mono ?_; rintro e w3 ⟨rfl, hb⟩
  have hv0 := HH0_2.out
  have hh0 : w3.heap[w.heap.size]? = some (.cells #[.int .u8 ka, .string nma, .string txa, .int .i64 na, .int .i64 ma] 23 (0, 0)) := (hb.block _ (heap_lt hv0)).trans hv0
  clear hv0
  have hbw3 : Below w.heap.size w w3 := (show Below w.heap.size w _ by first | exact HW2.out.trans ⟨rfl, rfl, rfl, Nat.le_refl _, fun _ _ => rfl⟩ | exact HW2.out | (go_grown; done)).trans (hb.mono (by first | omega | (simp; done) | (simp; omega)))
  clear hb lt0 c0_0 f0_0 c0_1 f0_1 c0_2 f0_2 c0_3 f0_3 c0_4 f0_4 hbw2
  have HH0_3 := Lib.hid hh0
  have lt0 := heap_lt hh0
  have c0_0 : w3.cell? ⟨w.heap.size, 0, none⟩ = some (.int .u8 ka) := by rw [Lib.cell_of_heap hh0]; rfl
  have f0_0 : w3.frozen? ⟨w.heap.size, 0, none⟩ = false := Lib.frozen_of_heap hh0 0
  have c0_1 : w3.cell? ⟨w.heap.size, 1, none⟩ = some (.string nma) := by rw [Lib.cell_of_heap hh0]; rfl
  have f0_1 : w3.frozen? ⟨w.heap.size, 1, none⟩ = false := Lib.frozen_of_heap hh0 1
  have c0_2 : w3.cell? ⟨w.heap.size, 2, none⟩ = some (.string txa) := by rw [Lib.cell_of_heap hh0]; rfl
  have f0_2 : w3.frozen? ⟨w.heap.size, 2, none⟩ = false := Lib.frozen_of_heap hh0 2
  have c0_3 : w3.cell? ⟨w.heap.size, 3, none⟩ = some (.int .i64 na) := by rw [Lib.cell_of_heap hh0]; rfl
  have f0_3 : w3.frozen? ⟨w.heap.size, 3, none⟩ = false := Lib.frozen_of_heap hh0 3
  have c0_4 : w3.cell? ⟨w.heap.size, 4, none⟩ = some (.int .i64 ma) := by rw [Lib.cell_of_heap hh0]; rfl
  have f0_4 : w3.frozen? ⟨w.heap.size, 4, none⟩ = false := Lib.frozen_of_heap hh0 4
  clear hh0
  have sz3 := hbw3.size
  have HW3 := Lib.hid hbw3
  go_wp2_with fail
  go_ret
  exact ⟨rfl, by first | (go_grown; done) | exact HW3.out⟩
set_option maxRecDepth 100000 in
set_option maxHeartbeats 4000000 in
theorem once16_high (k : Int) (ka : Int) (nma txa : ByteArray) (na ma : Int) (w : World) (hE : EnvS w) (q1 : decide (k < 1) = false) (q2 : decide (8 < k) = true) (HG : Hid (DoesU w 7 #[.agg #[.int .u8 ka, .string nma, .string txa, .int .i64 na, .int .i64 ma], .agg #[.int .u8 ka, .string nma, .string txa, .int .i64 na, .int .i64 ma]] (.bool false))) (H1 : Hid (DoesU w 8 #[.int .u8 k, .agg #[.int .u8 ka, .string nma, .string txa, .int .i64 na, .int .i64 ma]] (.tuple #[.agg #[.int .u8 0, .string ⟨#[]⟩, .string ⟨#[]⟩, .int .i64 0, .int .i64 0], .int .i64 2]))) :
    Calls Tryz.prog 3 #[.int .u8 k, .agg #[.int .u8 ka, .string nma, .string txa, .int .i64 na, .int .i64 ma]] w fun e w' => e = .returned (.bool true) ∧ Below w.heap.size w w' := by
  have HA : Hid (DoesU w 6 #[] (.bool true)) := Lib.hid fun W hW => lalive16 W (hE.below hW)
  go_enter Tryz.func3, Tryz.ntmps3
  go_wp2_with fail
  refine (HA.out _ (by first | exact Below.refl _ _ | (go_grown; done))).mono ?_; rintro e w1 ⟨rfl, hb⟩
  have hh0 : w1.heap[w.heap.size]? = some (.cells #[.int .u8 ka, .string nma, .string txa, .int .i64 na, .int .i64 ma] 23 (0, 0)) := (hb.block _ (by first | omega | (simp; done) | (simp; omega))).trans (heap_new _ _ _ (by first | rfl | simp))
  have hbw1 : Below w.heap.size w w1 := (show Below w.heap.size w _ by first | exact Below.refl _ _ | (go_grown; done)).trans (hb.mono (by first | omega | (simp; done) | (simp; omega)))
  clear hb
  have HH0_1 := Lib.hid hh0
  have lt0 := heap_lt hh0
  have c0_0 : w1.cell? ⟨w.heap.size, 0, none⟩ = some (.int .u8 ka) := by rw [Lib.cell_of_heap hh0]; rfl
  have f0_0 : w1.frozen? ⟨w.heap.size, 0, none⟩ = false := Lib.frozen_of_heap hh0 0
  have c0_1 : w1.cell? ⟨w.heap.size, 1, none⟩ = some (.string nma) := by rw [Lib.cell_of_heap hh0]; rfl
  have f0_1 : w1.frozen? ⟨w.heap.size, 1, none⟩ = false := Lib.frozen_of_heap hh0 1
  have c0_2 : w1.cell? ⟨w.heap.size, 2, none⟩ = some (.string txa) := by rw [Lib.cell_of_heap hh0]; rfl
  have f0_2 : w1.frozen? ⟨w.heap.size, 2, none⟩ = false := Lib.frozen_of_heap hh0 2
  have c0_3 : w1.cell? ⟨w.heap.size, 3, none⟩ = some (.int .i64 na) := by rw [Lib.cell_of_heap hh0]; rfl
  have f0_3 : w1.frozen? ⟨w.heap.size, 3, none⟩ = false := Lib.frozen_of_heap hh0 3
  have c0_4 : w1.cell? ⟨w.heap.size, 4, none⟩ = some (.int .i64 ma) := by rw [Lib.cell_of_heap hh0]; rfl
  have f0_4 : w1.frozen? ⟨w.heap.size, 4, none⟩ = false := Lib.frozen_of_heap hh0 4
  clear hh0
  have sz1 := hbw1.size
  have HW1 := Lib.hid hbw1
  go_wp2_with fail
  refine (HG.out _ (by first | exact HW1.out | exact HW1.out.trans ⟨rfl, rfl, rfl, Nat.le_refl _, fun _ _ => rfl⟩ | (go_grown; done))).mono ?_; rintro e w2 ⟨rfl, hb⟩
  have hv0 := HH0_1.out
  have hh0 : w2.heap[w.heap.size]? = some (.cells #[.int .u8 ka, .string nma, .string txa, .int .i64 na, .int .i64 ma] 23 (0, 0)) := (hb.block _ (heap_lt hv0)).trans hv0
  clear hv0
  have hbw2 : Below w.heap.size w w2 := (show Below w.heap.size w _ by first | exact HW1.out.trans ⟨rfl, rfl, rfl, Nat.le_refl _, fun _ _ => rfl⟩ | exact HW1.out | (go_grown; done)).trans (hb.mono (by first | omega | (simp; done) | (simp; omega)))
  clear hb lt0 c0_0 f0_0 c0_1 f0_1 c0_2 f0_2 c0_3 f0_3 c0_4 f0_4 hbw1
  have HH0_2 := Lib.hid hh0
  have lt0 := heap_lt hh0
  have c0_0 : w2.cell? ⟨w.heap.size, 0, none⟩ = some (.int .u8 ka) := by rw [Lib.cell_of_heap hh0]; rfl
  have f0_0 : w2.frozen? ⟨w.heap.size, 0, none⟩ = false := Lib.frozen_of_heap hh0 0
  have c0_1 : w2.cell? ⟨w.heap.size, 1, none⟩ = some (.string nma) := by rw [Lib.cell_of_heap hh0]; rfl
  have f0_1 : w2.frozen? ⟨w.heap.size, 1, none⟩ = false := Lib.frozen_of_heap hh0 1
  have c0_2 : w2.cell? ⟨w.heap.size, 2, none⟩ = some (.string txa) := by rw [Lib.cell_of_heap hh0]; rfl
  have f0_2 : w2.frozen? ⟨w.heap.size, 2, none⟩ = false := Lib.frozen_of_heap hh0 2
  have c0_3 : w2.cell? ⟨w.heap.size, 3, none⟩ = some (.int .i64 na) := by rw [Lib.cell_of_heap hh0]; rfl
  have f0_3 : w2.frozen? ⟨w.heap.size, 3, none⟩ = false := Lib.frozen_of_heap hh0 3
  have c0_4 : w2.cell? ⟨w.heap.size, 4, none⟩ = some (.int .i64 ma) := by rw [Lib.cell_of_heap hh0]; rfl
  have f0_4 : w2.frozen? ⟨w.heap.size, 4, none⟩ = false := Lib.frozen_of_heap hh0 4
  clear hh0
  have sz2 := hbw2.size
  have HW2 := Lib.hid hbw2
  go_wp2_with fail
  refine (H1.out _ (by first | exact HW2.out | exact HW2.out.trans ⟨rfl, rfl, rfl, Nat.le_refl _, fun _ _ => rfl⟩ | (go_grown; done))).mono ?_; rintro e w3 ⟨rfl, hb⟩
  have hv0 := HH0_2.out
  have hh0 : w3.heap[w.heap.size]? = some (.cells #[.int .u8 ka, .string nma, .string txa, .int .i64 na, .int .i64 ma] 23 (0, 0)) := (hb.block _ (heap_lt hv0)).trans hv0
  clear hv0
  have hbw3 : Below w.heap.size w w3 := (show Below w.heap.size w _ by first | exact HW2.out.trans ⟨rfl, rfl, rfl, Nat.le_refl _, fun _ _ => rfl⟩ | exact HW2.out | (go_grown; done)).trans (hb.mono (by first | omega | (simp; done) | (simp; omega)))
  clear hb lt0 c0_0 f0_0 c0_1 f0_1 c0_2 f0_2 c0_3 f0_3 c0_4 f0_4 hbw2
  have HH0_3 := Lib.hid hh0
  have lt0 := heap_lt hh0
  have c0_0 : w3.cell? ⟨w.heap.size, 0, none⟩ = some (.int .u8 ka) := by rw [Lib.cell_of_heap hh0]; rfl
  have f0_0 : w3.frozen? ⟨w.heap.size, 0, none⟩ = false := Lib.frozen_of_heap hh0 0
  have c0_1 : w3.cell? ⟨w.heap.size, 1, none⟩ = some (.string nma) := by rw [Lib.cell_of_heap hh0]; rfl
  have f0_1 : w3.frozen? ⟨w.heap.size, 1, none⟩ = false := Lib.frozen_of_heap hh0 1
  have c0_2 : w3.cell? ⟨w.heap.size, 2, none⟩ = some (.string txa) := by rw [Lib.cell_of_heap hh0]; rfl
  have f0_2 : w3.frozen? ⟨w.heap.size, 2, none⟩ = false := Lib.frozen_of_heap hh0 2
  have c0_3 : w3.cell? ⟨w.heap.size, 3, none⟩ = some (.int .i64 na) := by rw [Lib.cell_of_heap hh0]; rfl
  have f0_3 : w3.frozen? ⟨w.heap.size, 3, none⟩ = false := Lib.frozen_of_heap hh0 3
  have c0_4 : w3.cell? ⟨w.heap.size, 4, none⟩ = some (.int .i64 ma) := by rw [Lib.cell_of_heap hh0]; rfl
  have f0_4 : w3.frozen? ⟨w.heap.size, 4, none⟩ = false := Lib.frozen_of_heap hh0 4
  clear hh0
  have sz3 := hbw3.size
  have HW3 := Lib.hid hbw3
  go_wp2_with fail
  go_ret
  exact ⟨rfl, by first | (go_grown; done) | exact HW3.out⟩
set_option maxRecDepth 100000 in
set_option maxHeartbeats 4000000 in
theorem once16_bad (k : Int) (ka : Int) (nma txa : ByteArray) (na ma : Int) (w : World) (hE : EnvS w) (q1 : decide (k < 1) = false) (q2 : decide (8 < k) = false) (HG : Hid (DoesU w 7 #[.agg #[.int .u8 ka, .string nma, .string txa, .int .i64 na, .int .i64 ma], .agg #[.int .u8 ka, .string nma, .string txa, .int .i64 na, .int .i64 ma]] (.bool false))) (H1 : Hid (DoesU w 8 #[.int .u8 k, .agg #[.int .u8 ka, .string nma, .string txa, .int .i64 na, .int .i64 ma]] (.tuple #[.agg #[.int .u8 0, .string ⟨#[]⟩, .string ⟨#[]⟩, .int .i64 0, .int .i64 0], .int .i64 160]))) :
    Calls Tryz.prog 3 #[.int .u8 k, .agg #[.int .u8 ka, .string nma, .string txa, .int .i64 na, .int .i64 ma]] w fun e w' => e = .returned (.bool true) ∧ Below w.heap.size w w' := by
  have HA : Hid (DoesU w 6 #[] (.bool true)) := Lib.hid fun W hW => lalive16 W (hE.below hW)
  go_enter Tryz.func3, Tryz.ntmps3
  go_wp2_with fail
  refine (HA.out _ (by first | exact Below.refl _ _ | (go_grown; done))).mono ?_; rintro e w1 ⟨rfl, hb⟩
  have hh0 : w1.heap[w.heap.size]? = some (.cells #[.int .u8 ka, .string nma, .string txa, .int .i64 na, .int .i64 ma] 23 (0, 0)) := (hb.block _ (by first | omega | (simp; done) | (simp; omega))).trans (heap_new _ _ _ (by first | rfl | simp))
  have hbw1 : Below w.heap.size w w1 := (show Below w.heap.size w _ by first | exact Below.refl _ _ | (go_grown; done)).trans (hb.mono (by first | omega | (simp; done) | (simp; omega)))
  clear hb
  have HH0_1 := Lib.hid hh0
  have lt0 := heap_lt hh0
  have c0_0 : w1.cell? ⟨w.heap.size, 0, none⟩ = some (.int .u8 ka) := by rw [Lib.cell_of_heap hh0]; rfl
  have f0_0 : w1.frozen? ⟨w.heap.size, 0, none⟩ = false := Lib.frozen_of_heap hh0 0
  have c0_1 : w1.cell? ⟨w.heap.size, 1, none⟩ = some (.string nma) := by rw [Lib.cell_of_heap hh0]; rfl
  have f0_1 : w1.frozen? ⟨w.heap.size, 1, none⟩ = false := Lib.frozen_of_heap hh0 1
  have c0_2 : w1.cell? ⟨w.heap.size, 2, none⟩ = some (.string txa) := by rw [Lib.cell_of_heap hh0]; rfl
  have f0_2 : w1.frozen? ⟨w.heap.size, 2, none⟩ = false := Lib.frozen_of_heap hh0 2
  have c0_3 : w1.cell? ⟨w.heap.size, 3, none⟩ = some (.int .i64 na) := by rw [Lib.cell_of_heap hh0]; rfl
  have f0_3 : w1.frozen? ⟨w.heap.size, 3, none⟩ = false := Lib.frozen_of_heap hh0 3
  have c0_4 : w1.cell? ⟨w.heap.size, 4, none⟩ = some (.int .i64 ma) := by rw [Lib.cell_of_heap hh0]; rfl
  have f0_4 : w1.frozen? ⟨w.heap.size, 4, none⟩ = false := Lib.frozen_of_heap hh0 4
  clear hh0
  have sz1 := hbw1.size
  have HW1 := Lib.hid hbw1
  go_wp2_with fail
  refine (HG.out _ (by first | exact HW1.out | exact HW1.out.trans ⟨rfl, rfl, rfl, Nat.le_refl _, fun _ _ => rfl⟩ | (go_grown; done))).mono ?_; rintro e w2 ⟨rfl, hb⟩
  have hv0 := HH0_1.out
  have hh0 : w2.heap[w.heap.size]? = some (.cells #[.int .u8 ka, .string nma, .string txa, .int .i64 na, .int .i64 ma] 23 (0, 0)) := (hb.block _ (heap_lt hv0)).trans hv0
  clear hv0
  have hbw2 : Below w.heap.size w w2 := (show Below w.heap.size w _ by first | exact HW1.out.trans ⟨rfl, rfl, rfl, Nat.le_refl _, fun _ _ => rfl⟩ | exact HW1.out | (go_grown; done)).trans (hb.mono (by first | omega | (simp; done) | (simp; omega)))
  clear hb lt0 c0_0 f0_0 c0_1 f0_1 c0_2 f0_2 c0_3 f0_3 c0_4 f0_4 hbw1
  have HH0_2 := Lib.hid hh0
  have lt0 := heap_lt hh0
  have c0_0 : w2.cell? ⟨w.heap.size, 0, none⟩ = some (.int .u8 ka) := by rw [Lib.cell_of_heap hh0]; rfl
  have f0_0 : w2.frozen? ⟨w.heap.size, 0, none⟩ = false := Lib.frozen_of_heap hh0 0
  have c0_1 : w2.cell? ⟨w.heap.size, 1, none⟩ = some (.string nma) := by rw [Lib.cell_of_heap hh0]; rfl
  have f0_1 : w2.frozen? ⟨w.heap.size, 1, none⟩ = false := Lib.frozen_of_heap hh0 1
  have c0_2 : w2.cell? ⟨w.heap.size, 2, none⟩ = some (.string txa) := by rw [Lib.cell_of_heap hh0]; rfl
  have f0_2 : w2.frozen? ⟨w.heap.size, 2, none⟩ = false := Lib.frozen_of_heap hh0 2
  have c0_3 : w2.cell? ⟨w.heap.size, 3, none⟩ = some (.int .i64 na) := by rw [Lib.cell_of_heap hh0]; rfl
  have f0_3 : w2.frozen? ⟨w.heap.size, 3, none⟩ = false := Lib.frozen_of_heap hh0 3
  have c0_4 : w2.cell? ⟨w.heap.size, 4, none⟩ = some (.int .i64 ma) := by rw [Lib.cell_of_heap hh0]; rfl
  have f0_4 : w2.frozen? ⟨w.heap.size, 4, none⟩ = false := Lib.frozen_of_heap hh0 4
  clear hh0
  have sz2 := hbw2.size
  have HW2 := Lib.hid hbw2
  go_wp2_with fail
  refine (H1.out _ (by first | exact HW2.out | exact HW2.out.trans ⟨rfl, rfl, rfl, Nat.le_refl _, fun _ _ => rfl⟩ | (go_grown; done))).mono ?_; rintro e w3 ⟨rfl, hb⟩
  have hv0 := HH0_2.out
  have hh0 : w3.heap[w.heap.size]? = some (.cells #[.int .u8 ka, .string nma, .string txa, .int .i64 na, .int .i64 ma] 23 (0, 0)) := (hb.block _ (heap_lt hv0)).trans hv0
  clear hv0
  have hbw3 : Below w.heap.size w w3 := (show Below w.heap.size w _ by first | exact HW2.out.trans ⟨rfl, rfl, rfl, Nat.le_refl _, fun _ _ => rfl⟩ | exact HW2.out | (go_grown; done)).trans (hb.mono (by first | omega | (simp; done) | (simp; omega)))
  clear hb lt0 c0_0 f0_0 c0_1 f0_1 c0_2 f0_2 c0_3 f0_3 c0_4 f0_4 hbw2
  have HH0_3 := Lib.hid hh0
  have lt0 := heap_lt hh0
  have c0_0 : w3.cell? ⟨w.heap.size, 0, none⟩ = some (.int .u8 ka) := by rw [Lib.cell_of_heap hh0]; rfl
  have f0_0 : w3.frozen? ⟨w.heap.size, 0, none⟩ = false := Lib.frozen_of_heap hh0 0
  have c0_1 : w3.cell? ⟨w.heap.size, 1, none⟩ = some (.string nma) := by rw [Lib.cell_of_heap hh0]; rfl
  have f0_1 : w3.frozen? ⟨w.heap.size, 1, none⟩ = false := Lib.frozen_of_heap hh0 1
  have c0_2 : w3.cell? ⟨w.heap.size, 2, none⟩ = some (.string txa) := by rw [Lib.cell_of_heap hh0]; rfl
  have f0_2 : w3.frozen? ⟨w.heap.size, 2, none⟩ = false := Lib.frozen_of_heap hh0 2
  have c0_3 : w3.cell? ⟨w.heap.size, 3, none⟩ = some (.int .i64 na) := by rw [Lib.cell_of_heap hh0]; rfl
  have f0_3 : w3.frozen? ⟨w.heap.size, 3, none⟩ = false := Lib.frozen_of_heap hh0 3
  have c0_4 : w3.cell? ⟨w.heap.size, 4, none⟩ = some (.int .i64 ma) := by rw [Lib.cell_of_heap hh0]; rfl
  have f0_4 : w3.frozen? ⟨w.heap.size, 4, none⟩ = false := Lib.frozen_of_heap hh0 4
  clear hh0
  have sz3 := hbw3.size
  have HW3 := Lib.hid hbw3
  go_wp2_with fail
  go_ret
  exact ⟨rfl, by first | (go_grown; done) | exact HW3.out⟩
set_option maxRecDepth 100000 in
set_option maxHeartbeats 4000000 in
theorem once16_txt (k : Int) (ka : Int) (nma txa : ByteArray) (na ma : Int) (txx : ByteArray) (w : World) (hE : EnvS w) (HG : Hid (DoesU w 7 #[.agg #[.int .u8 ka, .string nma, .string txa, .int .i64 na, .int .i64 ma], .agg #[.int .u8 ka, .string nma, .string txa, .int .i64 na, .int .i64 ma]] (.bool false))) (H1 : Hid (DoesU w 8 #[.int .u8 k, .agg #[.int .u8 ka, .string nma, .string txa, .int .i64 na, .int .i64 ma]] (.tuple #[.agg #[.int .u8 3, .string ⟨#[]⟩, .string txx, .int .i64 0, .int .i64 0], .int .i64 0]))) (H2 : Hid (DoesU w 8 #[.int .u8 k, .agg #[.int .u8 ka, .string ⟨#[122]⟩, .string txa, .int .i64 na, .int .i64 ma]] (.tuple #[.agg #[.int .u8 3, .string ⟨#[]⟩, .string txx, .int .i64 0, .int .i64 0], .int .i64 0]))) (HR : Hid (DoesU w 9 #[.int .u8 k, .agg #[.int .u8 3, .string ⟨#[]⟩, .string txx, .int .i64 0, .int .i64 0], .agg #[.int .u8 3, .string ⟨#[]⟩, .string txx, .int .i64 0, .int .i64 0]] (.bool true))) :
    Calls Tryz.prog 3 #[.int .u8 k, .agg #[.int .u8 ka, .string nma, .string txa, .int .i64 na, .int .i64 ma]] w fun e w' => e = .returned (.bool true) ∧ Below w.heap.size w w' := by
  have HA : Hid (DoesU w 6 #[] (.bool true)) := Lib.hid fun W hW => lalive16 W (hE.below hW)
  go_enter Tryz.func3, Tryz.ntmps3
  go_wp2_with fail
  refine (HA.out _ (by first | exact Below.refl _ _ | (go_grown; done))).mono ?_; rintro e w1 ⟨rfl, hb⟩
  have hh0 : w1.heap[w.heap.size]? = some (.cells #[.int .u8 ka, .string nma, .string txa, .int .i64 na, .int .i64 ma] 23 (0, 0)) := (hb.block _ (by first | omega | (simp; done) | (simp; omega))).trans (heap_new _ _ _ (by first | rfl | simp))
  have hbw1 : Below w.heap.size w w1 := (show Below w.heap.size w _ by first | exact Below.refl _ _ | (go_grown; done)).trans (hb.mono (by first | omega | (simp; done) | (simp; omega)))
  clear hb
  have HH0_1 := Lib.hid hh0
  have lt0 := heap_lt hh0
  have c0_0 : w1.cell? ⟨w.heap.size, 0, none⟩ = some (.int .u8 ka) := by rw [Lib.cell_of_heap hh0]; rfl
  have f0_0 : w1.frozen? ⟨w.heap.size, 0, none⟩ = false := Lib.frozen_of_heap hh0 0
  have c0_1 : w1.cell? ⟨w.heap.size, 1, none⟩ = some (.string nma) := by rw [Lib.cell_of_heap hh0]; rfl
  have f0_1 : w1.frozen? ⟨w.heap.size, 1, none⟩ = false := Lib.frozen_of_heap hh0 1
  have c0_2 : w1.cell? ⟨w.heap.size, 2, none⟩ = some (.string txa) := by rw [Lib.cell_of_heap hh0]; rfl
  have f0_2 : w1.frozen? ⟨w.heap.size, 2, none⟩ = false := Lib.frozen_of_heap hh0 2
  have c0_3 : w1.cell? ⟨w.heap.size, 3, none⟩ = some (.int .i64 na) := by rw [Lib.cell_of_heap hh0]; rfl
  have f0_3 : w1.frozen? ⟨w.heap.size, 3, none⟩ = false := Lib.frozen_of_heap hh0 3
  have c0_4 : w1.cell? ⟨w.heap.size, 4, none⟩ = some (.int .i64 ma) := by rw [Lib.cell_of_heap hh0]; rfl
  have f0_4 : w1.frozen? ⟨w.heap.size, 4, none⟩ = false := Lib.frozen_of_heap hh0 4
  clear hh0
  have sz1 := hbw1.size
  have HW1 := Lib.hid hbw1
  go_wp2_with fail
  refine (HG.out _ (by first | exact HW1.out | exact HW1.out.trans ⟨rfl, rfl, rfl, Nat.le_refl _, fun _ _ => rfl⟩ | (go_grown; done))).mono ?_; rintro e w2 ⟨rfl, hb⟩
  have hv0 := HH0_1.out
  have hh0 : w2.heap[w.heap.size]? = some (.cells #[.int .u8 ka, .string nma, .string txa, .int .i64 na, .int .i64 ma] 23 (0, 0)) := (hb.block _ (heap_lt hv0)).trans hv0
  clear hv0
  have hbw2 : Below w.heap.size w w2 := (show Below w.heap.size w _ by first | exact HW1.out.trans ⟨rfl, rfl, rfl, Nat.le_refl _, fun _ _ => rfl⟩ | exact HW1.out | (go_grown; done)).trans (hb.mono (by first | omega | (simp; done) | (simp; omega)))
  clear hb lt0 c0_0 f0_0 c0_1 f0_1 c0_2 f0_2 c0_3 f0_3 c0_4 f0_4 hbw1
  have HH0_2 := Lib.hid hh0
  have lt0 := heap_lt hh0
  have c0_0 : w2.cell? ⟨w.heap.size, 0, none⟩ = some (.int .u8 ka) := by rw [Lib.cell_of_heap hh0]; rfl
  have f0_0 : w2.frozen? ⟨w.heap.size, 0, none⟩ = false := Lib.frozen_of_heap hh0 0
  have c0_1 : w2.cell? ⟨w.heap.size, 1, none⟩ = some (.string nma) := by rw [Lib.cell_of_heap hh0]; rfl
  have f0_1 : w2.frozen? ⟨w.heap.size, 1, none⟩ = false := Lib.frozen_of_heap hh0 1
  have c0_2 : w2.cell? ⟨w.heap.size, 2, none⟩ = some (.string txa) := by rw [Lib.cell_of_heap hh0]; rfl
  have f0_2 : w2.frozen? ⟨w.heap.size, 2, none⟩ = false := Lib.frozen_of_heap hh0 2
  have c0_3 : w2.cell? ⟨w.heap.size, 3, none⟩ = some (.int .i64 na) := by rw [Lib.cell_of_heap hh0]; rfl
  have f0_3 : w2.frozen? ⟨w.heap.size, 3, none⟩ = false := Lib.frozen_of_heap hh0 3
  have c0_4 : w2.cell? ⟨w.heap.size, 4, none⟩ = some (.int .i64 ma) := by rw [Lib.cell_of_heap hh0]; rfl
  have f0_4 : w2.frozen? ⟨w.heap.size, 4, none⟩ = false := Lib.frozen_of_heap hh0 4
  clear hh0
  have sz2 := hbw2.size
  have HW2 := Lib.hid hbw2
  go_wp2_with fail
  refine (H1.out _ (by first | exact HW2.out | exact HW2.out.trans ⟨rfl, rfl, rfl, Nat.le_refl _, fun _ _ => rfl⟩ | (go_grown; done))).mono ?_; rintro e w3 ⟨rfl, hb⟩
  have hv0 := HH0_2.out
  have hh0 : w3.heap[w.heap.size]? = some (.cells #[.int .u8 ka, .string nma, .string txa, .int .i64 na, .int .i64 ma] 23 (0, 0)) := (hb.block _ (heap_lt hv0)).trans hv0
  clear hv0
  have hbw3 : Below w.heap.size w w3 := (show Below w.heap.size w _ by first | exact HW2.out.trans ⟨rfl, rfl, rfl, Nat.le_refl _, fun _ _ => rfl⟩ | exact HW2.out | (go_grown; done)).trans (hb.mono (by first | omega | (simp; done) | (simp; omega)))
  clear hb lt0 c0_0 f0_0 c0_1 f0_1 c0_2 f0_2 c0_3 f0_3 c0_4 f0_4 hbw2
  have HH0_3 := Lib.hid hh0
  have lt0 := heap_lt hh0
  have c0_0 : w3.cell? ⟨w.heap.size, 0, none⟩ = some (.int .u8 ka) := by rw [Lib.cell_of_heap hh0]; rfl
  have f0_0 : w3.frozen? ⟨w.heap.size, 0, none⟩ = false := Lib.frozen_of_heap hh0 0
  have c0_1 : w3.cell? ⟨w.heap.size, 1, none⟩ = some (.string nma) := by rw [Lib.cell_of_heap hh0]; rfl
  have f0_1 : w3.frozen? ⟨w.heap.size, 1, none⟩ = false := Lib.frozen_of_heap hh0 1
  have c0_2 : w3.cell? ⟨w.heap.size, 2, none⟩ = some (.string txa) := by rw [Lib.cell_of_heap hh0]; rfl
  have f0_2 : w3.frozen? ⟨w.heap.size, 2, none⟩ = false := Lib.frozen_of_heap hh0 2
  have c0_3 : w3.cell? ⟨w.heap.size, 3, none⟩ = some (.int .i64 na) := by rw [Lib.cell_of_heap hh0]; rfl
  have f0_3 : w3.frozen? ⟨w.heap.size, 3, none⟩ = false := Lib.frozen_of_heap hh0 3
  have c0_4 : w3.cell? ⟨w.heap.size, 4, none⟩ = some (.int .i64 ma) := by rw [Lib.cell_of_heap hh0]; rfl
  have f0_4 : w3.frozen? ⟨w.heap.size, 4, none⟩ = false := Lib.frozen_of_heap hh0 4
  clear hh0
  have sz3 := hbw3.size
  have HW3 := Lib.hid hbw3
  go_wp2_with fail
  refine (H2.out _ (by first | exact HW3.out | exact HW3.out.trans ⟨rfl, rfl, rfl, Nat.le_refl _, fun _ _ => rfl⟩ | (go_grown; done))).mono ?_; rintro e w4 ⟨rfl, hb⟩
  have hv0 := heap_old (o' := (.cells #[.int .u8 3, .string ⟨#[]⟩, .string txx, .int .i64 0, .int .i64 0] 23 (0, 0))) (pset (i := 1) (HH0_3.out) (.string ⟨#[122]⟩) rfl)
  have hh0 : w4.heap[w.heap.size]? = some (.cells #[.int .u8 ka, .string ⟨#[122]⟩, .string txa, .int .i64 na, .int .i64 ma] 23 (0, 0)) := (hb.block _ (heap_lt hv0)).trans hv0
  clear hv0
  have hh1 : w4.heap[w3.heap.size]? = some (.cells #[.int .u8 3, .string ⟨#[]⟩, .string txx, .int .i64 0, .int .i64 0] 23 (0, 0)) := (hb.block _ (by first | omega | (simp; done) | (simp; omega))).trans (heap_new _ _ _ (by first | rfl | simp))
  have hbw4 : Below w.heap.size w w4 := (show Below w.heap.size w _ by first | exact HW3.out.trans ⟨rfl, rfl, rfl, Nat.le_refl _, fun _ _ => rfl⟩ | exact HW3.out | (go_grown; done)).trans (hb.mono (by first | omega | (simp; done) | (simp; omega)))
  clear hb lt0 c0_0 f0_0 c0_1 f0_1 c0_2 f0_2 c0_3 f0_3 c0_4 f0_4 hbw3
  have HH0_4 := Lib.hid hh0
  have lt0 := heap_lt hh0
  have c0_0 : w4.cell? ⟨w.heap.size, 0, none⟩ = some (.int .u8 ka) := by rw [Lib.cell_of_heap hh0]; rfl
  have f0_0 : w4.frozen? ⟨w.heap.size, 0, none⟩ = false := Lib.frozen_of_heap hh0 0
  have c0_1 : w4.cell? ⟨w.heap.size, 1, none⟩ = some (.string ⟨#[122]⟩) := by rw [Lib.cell_of_heap hh0]; rfl
  have f0_1 : w4.frozen? ⟨w.heap.size, 1, none⟩ = false := Lib.frozen_of_heap hh0 1
  have c0_2 : w4.cell? ⟨w.heap.size, 2, none⟩ = some (.string txa) := by rw [Lib.cell_of_heap hh0]; rfl
  have f0_2 : w4.frozen? ⟨w.heap.size, 2, none⟩ = false := Lib.frozen_of_heap hh0 2
  have c0_3 : w4.cell? ⟨w.heap.size, 3, none⟩ = some (.int .i64 na) := by rw [Lib.cell_of_heap hh0]; rfl
  have f0_3 : w4.frozen? ⟨w.heap.size, 3, none⟩ = false := Lib.frozen_of_heap hh0 3
  have c0_4 : w4.cell? ⟨w.heap.size, 4, none⟩ = some (.int .i64 ma) := by rw [Lib.cell_of_heap hh0]; rfl
  have f0_4 : w4.frozen? ⟨w.heap.size, 4, none⟩ = false := Lib.frozen_of_heap hh0 4
  clear hh0
  have HH1_4 := Lib.hid hh1
  have lt1 := heap_lt hh1
  have c1_0 : w4.cell? ⟨w3.heap.size, 0, none⟩ = some (.int .u8 3) := by rw [Lib.cell_of_heap hh1]; rfl
  have c1_1 : w4.cell? ⟨w3.heap.size, 1, none⟩ = some (.string ⟨#[]⟩) := by rw [Lib.cell_of_heap hh1]; rfl
  have c1_2 : w4.cell? ⟨w3.heap.size, 2, none⟩ = some (.string txx) := by rw [Lib.cell_of_heap hh1]; rfl
  have c1_3 : w4.cell? ⟨w3.heap.size, 3, none⟩ = some (.int .i64 0) := by rw [Lib.cell_of_heap hh1]; rfl
  have c1_4 : w4.cell? ⟨w3.heap.size, 4, none⟩ = some (.int .i64 0) := by rw [Lib.cell_of_heap hh1]; rfl
  clear hh1
  have sz4 := hbw4.size
  have HW4 := Lib.hid hbw4
  go_wp2_with fail
  refine (HR.out _ (by first | exact HW4.out | exact HW4.out.trans ⟨rfl, rfl, rfl, Nat.le_refl _, fun _ _ => rfl⟩ | (go_grown; done))).mono ?_; rintro e w5 ⟨rfl, hb⟩
  have hv0 := heap_old (o' := (.cells #[.int .u8 3, .string ⟨#[]⟩, .string txx, .int .i64 0, .int .i64 0] 23 (0, 0))) (HH0_4.out)
  have hh0 : w5.heap[w.heap.size]? = some (.cells #[.int .u8 ka, .string ⟨#[122]⟩, .string txa, .int .i64 na, .int .i64 ma] 23 (0, 0)) := (hb.block _ (heap_lt hv0)).trans hv0
  clear hv0
  have hv1 := heap_old (o' := (.cells #[.int .u8 3, .string ⟨#[]⟩, .string txx, .int .i64 0, .int .i64 0] 23 (0, 0))) (HH1_4.out)
  have hh1 : w5.heap[w3.heap.size]? = some (.cells #[.int .u8 3, .string ⟨#[]⟩, .string txx, .int .i64 0, .int .i64 0] 23 (0, 0)) := (hb.block _ (heap_lt hv1)).trans hv1
  clear hv1
  have hh2 : w5.heap[w4.heap.size]? = some (.cells #[.int .u8 3, .string ⟨#[]⟩, .string txx, .int .i64 0, .int .i64 0] 23 (0, 0)) := (hb.block _ (by first | omega | (simp; done) | (simp; omega))).trans (heap_new _ _ _ (by first | rfl | simp))
  have hbw5 : Below w.heap.size w w5 := (show Below w.heap.size w _ by first | exact HW4.out.trans ⟨rfl, rfl, rfl, Nat.le_refl _, fun _ _ => rfl⟩ | exact HW4.out | (go_grown; done)).trans (hb.mono (by first | omega | (simp; done) | (simp; omega)))
  clear hb lt0 c0_0 f0_0 c0_1 f0_1 c0_2 f0_2 c0_3 f0_3 c0_4 f0_4 lt1 c1_0 c1_1 c1_2 c1_3 c1_4 hbw4
  have HH0_5 := Lib.hid hh0
  have lt0 := heap_lt hh0
  have c0_0 : w5.cell? ⟨w.heap.size, 0, none⟩ = some (.int .u8 ka) := by rw [Lib.cell_of_heap hh0]; rfl
  have f0_0 : w5.frozen? ⟨w.heap.size, 0, none⟩ = false := Lib.frozen_of_heap hh0 0
  have c0_1 : w5.cell? ⟨w.heap.size, 1, none⟩ = some (.string ⟨#[122]⟩) := by rw [Lib.cell_of_heap hh0]; rfl
  have f0_1 : w5.frozen? ⟨w.heap.size, 1, none⟩ = false := Lib.frozen_of_heap hh0 1
  have c0_2 : w5.cell? ⟨w.heap.size, 2, none⟩ = some (.string txa) := by rw [Lib.cell_of_heap hh0]; rfl
  have f0_2 : w5.frozen? ⟨w.heap.size, 2, none⟩ = false := Lib.frozen_of_heap hh0 2
  have c0_3 : w5.cell? ⟨w.heap.size, 3, none⟩ = some (.int .i64 na) := by rw [Lib.cell_of_heap hh0]; rfl
  have f0_3 : w5.frozen? ⟨w.heap.size, 3, none⟩ = false := Lib.frozen_of_heap hh0 3
  have c0_4 : w5.cell? ⟨w.heap.size, 4, none⟩ = some (.int .i64 ma) := by rw [Lib.cell_of_heap hh0]; rfl
  have f0_4 : w5.frozen? ⟨w.heap.size, 4, none⟩ = false := Lib.frozen_of_heap hh0 4
  clear hh0
  have HH1_5 := Lib.hid hh1
  have lt1 := heap_lt hh1
  have c1_0 : w5.cell? ⟨w3.heap.size, 0, none⟩ = some (.int .u8 3) := by rw [Lib.cell_of_heap hh1]; rfl
  have c1_1 : w5.cell? ⟨w3.heap.size, 1, none⟩ = some (.string ⟨#[]⟩) := by rw [Lib.cell_of_heap hh1]; rfl
  have c1_2 : w5.cell? ⟨w3.heap.size, 2, none⟩ = some (.string txx) := by rw [Lib.cell_of_heap hh1]; rfl
  have c1_3 : w5.cell? ⟨w3.heap.size, 3, none⟩ = some (.int .i64 0) := by rw [Lib.cell_of_heap hh1]; rfl
  have c1_4 : w5.cell? ⟨w3.heap.size, 4, none⟩ = some (.int .i64 0) := by rw [Lib.cell_of_heap hh1]; rfl
  clear hh1
  have HH2_5 := Lib.hid hh2
  have lt2 := heap_lt hh2
  have c2_0 : w5.cell? ⟨w4.heap.size, 0, none⟩ = some (.int .u8 3) := by rw [Lib.cell_of_heap hh2]; rfl
  have c2_1 : w5.cell? ⟨w4.heap.size, 1, none⟩ = some (.string ⟨#[]⟩) := by rw [Lib.cell_of_heap hh2]; rfl
  have c2_2 : w5.cell? ⟨w4.heap.size, 2, none⟩ = some (.string txx) := by rw [Lib.cell_of_heap hh2]; rfl
  have c2_3 : w5.cell? ⟨w4.heap.size, 3, none⟩ = some (.int .i64 0) := by rw [Lib.cell_of_heap hh2]; rfl
  have c2_4 : w5.cell? ⟨w4.heap.size, 4, none⟩ = some (.int .i64 0) := by rw [Lib.cell_of_heap hh2]; rfl
  clear hh2
  have sz5 := hbw5.size
  have HW5 := Lib.hid hbw5
  go_wp2_with fail
  go_ret
  exact ⟨rfl, by first | exact HW5.out | (go_grown; done)⟩
set_option maxRecDepth 100000 in
set_option maxHeartbeats 4000000 in
theorem once16_num (k : Int) (ka : Int) (nma txa : ByteArray) (na ma : Int) (kx nx : Int) (w : World) (hE : EnvS w) (q3 : (kx != 3) = true) (q4 : (kx == 3) = false) (HG : Hid (DoesU w 7 #[.agg #[.int .u8 ka, .string nma, .string txa, .int .i64 na, .int .i64 ma], .agg #[.int .u8 ka, .string nma, .string txa, .int .i64 na, .int .i64 ma]] (.bool false))) (H1 : Hid (DoesU w 8 #[.int .u8 k, .agg #[.int .u8 ka, .string nma, .string txa, .int .i64 na, .int .i64 ma]] (.tuple #[.agg #[.int .u8 kx, .string ⟨#[]⟩, .string ⟨#[]⟩, .int .i64 nx, .int .i64 0], .int .i64 0]))) (H2 : Hid (DoesU w 8 #[.int .u8 k, .agg #[.int .u8 ka, .string ⟨#[122]⟩, .string txa, .int .i64 na, .int .i64 ma]] (.tuple #[.agg #[.int .u8 kx, .string ⟨#[]⟩, .string ⟨#[]⟩, .int .i64 nx, .int .i64 0], .int .i64 0]))) (HR : Hid (DoesU w 9 #[.int .u8 k, .agg #[.int .u8 kx, .string ⟨#[]⟩, .string ⟨#[]⟩, .int .i64 nx, .int .i64 0], .agg #[.int .u8 kx, .string ⟨#[]⟩, .string ⟨#[]⟩, .int .i64 nx, .int .i64 0]] (.bool true))) :
    Calls Tryz.prog 3 #[.int .u8 k, .agg #[.int .u8 ka, .string nma, .string txa, .int .i64 na, .int .i64 ma]] w fun e w' => e = .returned (.bool true) ∧ Below w.heap.size w w' := by
  have HA : Hid (DoesU w 6 #[] (.bool true)) := Lib.hid fun W hW => lalive16 W (hE.below hW)
  go_enter Tryz.func3, Tryz.ntmps3
  go_wp2_with fail
  refine (HA.out _ (by first | exact Below.refl _ _ | (go_grown; done))).mono ?_; rintro e w1 ⟨rfl, hb⟩
  have hh0 : w1.heap[w.heap.size]? = some (.cells #[.int .u8 ka, .string nma, .string txa, .int .i64 na, .int .i64 ma] 23 (0, 0)) := (hb.block _ (by first | omega | (simp; done) | (simp; omega))).trans (heap_new _ _ _ (by first | rfl | simp))
  have hbw1 : Below w.heap.size w w1 := (show Below w.heap.size w _ by first | exact Below.refl _ _ | (go_grown; done)).trans (hb.mono (by first | omega | (simp; done) | (simp; omega)))
  clear hb
  have HH0_1 := Lib.hid hh0
  have lt0 := heap_lt hh0
  have c0_0 : w1.cell? ⟨w.heap.size, 0, none⟩ = some (.int .u8 ka) := by rw [Lib.cell_of_heap hh0]; rfl
  have f0_0 : w1.frozen? ⟨w.heap.size, 0, none⟩ = false := Lib.frozen_of_heap hh0 0
  have c0_1 : w1.cell? ⟨w.heap.size, 1, none⟩ = some (.string nma) := by rw [Lib.cell_of_heap hh0]; rfl
  have f0_1 : w1.frozen? ⟨w.heap.size, 1, none⟩ = false := Lib.frozen_of_heap hh0 1
  have c0_2 : w1.cell? ⟨w.heap.size, 2, none⟩ = some (.string txa) := by rw [Lib.cell_of_heap hh0]; rfl
  have f0_2 : w1.frozen? ⟨w.heap.size, 2, none⟩ = false := Lib.frozen_of_heap hh0 2
  have c0_3 : w1.cell? ⟨w.heap.size, 3, none⟩ = some (.int .i64 na) := by rw [Lib.cell_of_heap hh0]; rfl
  have f0_3 : w1.frozen? ⟨w.heap.size, 3, none⟩ = false := Lib.frozen_of_heap hh0 3
  have c0_4 : w1.cell? ⟨w.heap.size, 4, none⟩ = some (.int .i64 ma) := by rw [Lib.cell_of_heap hh0]; rfl
  have f0_4 : w1.frozen? ⟨w.heap.size, 4, none⟩ = false := Lib.frozen_of_heap hh0 4
  clear hh0
  have sz1 := hbw1.size
  have HW1 := Lib.hid hbw1
  go_wp2_with fail
  refine (HG.out _ (by first | exact HW1.out | exact HW1.out.trans ⟨rfl, rfl, rfl, Nat.le_refl _, fun _ _ => rfl⟩ | (go_grown; done))).mono ?_; rintro e w2 ⟨rfl, hb⟩
  have hv0 := HH0_1.out
  have hh0 : w2.heap[w.heap.size]? = some (.cells #[.int .u8 ka, .string nma, .string txa, .int .i64 na, .int .i64 ma] 23 (0, 0)) := (hb.block _ (heap_lt hv0)).trans hv0
  clear hv0
  have hbw2 : Below w.heap.size w w2 := (show Below w.heap.size w _ by first | exact HW1.out.trans ⟨rfl, rfl, rfl, Nat.le_refl _, fun _ _ => rfl⟩ | exact HW1.out | (go_grown; done)).trans (hb.mono (by first | omega | (simp; done) | (simp; omega)))
  clear hb lt0 c0_0 f0_0 c0_1 f0_1 c0_2 f0_2 c0_3 f0_3 c0_4 f0_4 hbw1
  have HH0_2 := Lib.hid hh0
  have lt0 := heap_lt hh0
  have c0_0 : w2.cell? ⟨w.heap.size, 0, none⟩ = some (.int .u8 ka) := by rw [Lib.cell_of_heap hh0]; rfl
  have f0_0 : w2.frozen? ⟨w.heap.size, 0, none⟩ = false := Lib.frozen_of_heap hh0 0
  have c0_1 : w2.cell? ⟨w.heap.size, 1, none⟩ = some (.string nma) := by rw [Lib.cell_of_heap hh0]; rfl
  have f0_1 : w2.frozen? ⟨w.heap.size, 1, none⟩ = false := Lib.frozen_of_heap hh0 1
  have c0_2 : w2.cell? ⟨w.heap.size, 2, none⟩ = some (.string txa) := by rw [Lib.cell_of_heap hh0]; rfl
  have f0_2 : w2.frozen? ⟨w.heap.size, 2, none⟩ = false := Lib.frozen_of_heap hh0 2
  have c0_3 : w2.cell? ⟨w.heap.size, 3, none⟩ = some (.int .i64 na) := by rw [Lib.cell_of_heap hh0]; rfl
  have f0_3 : w2.frozen? ⟨w.heap.size, 3, none⟩ = false := Lib.frozen_of_heap hh0 3
  have c0_4 : w2.cell? ⟨w.heap.size, 4, none⟩ = some (.int .i64 ma) := by rw [Lib.cell_of_heap hh0]; rfl
  have f0_4 : w2.frozen? ⟨w.heap.size, 4, none⟩ = false := Lib.frozen_of_heap hh0 4
  clear hh0
  have sz2 := hbw2.size
  have HW2 := Lib.hid hbw2
  go_wp2_with fail
  refine (H1.out _ (by first | exact HW2.out | exact HW2.out.trans ⟨rfl, rfl, rfl, Nat.le_refl _, fun _ _ => rfl⟩ | (go_grown; done))).mono ?_; rintro e w3 ⟨rfl, hb⟩
  have hv0 := HH0_2.out
  have hh0 : w3.heap[w.heap.size]? = some (.cells #[.int .u8 ka, .string nma, .string txa, .int .i64 na, .int .i64 ma] 23 (0, 0)) := (hb.block _ (heap_lt hv0)).trans hv0
  clear hv0
  have hbw3 : Below w.heap.size w w3 := (show Below w.heap.size w _ by first | exact HW2.out.trans ⟨rfl, rfl, rfl, Nat.le_refl _, fun _ _ => rfl⟩ | exact HW2.out | (go_grown; done)).trans (hb.mono (by first | omega | (simp; done) | (simp; omega)))
  clear hb lt0 c0_0 f0_0 c0_1 f0_1 c0_2 f0_2 c0_3 f0_3 c0_4 f0_4 hbw2
  have HH0_3 := Lib.hid hh0
  have lt0 := heap_lt hh0
  have c0_0 : w3.cell? ⟨w.heap.size, 0, none⟩ = some (.int .u8 ka) := by rw [Lib.cell_of_heap hh0]; rfl
  have f0_0 : w3.frozen? ⟨w.heap.size, 0, none⟩ = false := Lib.frozen_of_heap hh0 0
  have c0_1 : w3.cell? ⟨w.heap.size, 1, none⟩ = some (.string nma) := by rw [Lib.cell_of_heap hh0]; rfl
  have f0_1 : w3.frozen? ⟨w.heap.size, 1, none⟩ = false := Lib.frozen_of_heap hh0 1
  have c0_2 : w3.cell? ⟨w.heap.size, 2, none⟩ = some (.string txa) := by rw [Lib.cell_of_heap hh0]; rfl
  have f0_2 : w3.frozen? ⟨w.heap.size, 2, none⟩ = false := Lib.frozen_of_heap hh0 2
  have c0_3 : w3.cell? ⟨w.heap.size, 3, none⟩ = some (.int .i64 na) := by rw [Lib.cell_of_heap hh0]; rfl
  have f0_3 : w3.frozen? ⟨w.heap.size, 3, none⟩ = false := Lib.frozen_of_heap hh0 3
  have c0_4 : w3.cell? ⟨w.heap.size, 4, none⟩ = some (.int .i64 ma) := by rw [Lib.cell_of_heap hh0]; rfl
  have f0_4 : w3.frozen? ⟨w.heap.size, 4, none⟩ = false := Lib.frozen_of_heap hh0 4
  clear hh0
  have sz3 := hbw3.size
  have HW3 := Lib.hid hbw3
  go_wp2_with fail
  refine (H2.out _ (by first | exact HW3.out | exact HW3.out.trans ⟨rfl, rfl, rfl, Nat.le_refl _, fun _ _ => rfl⟩ | (go_grown; done))).mono ?_; rintro e w4 ⟨rfl, hb⟩
  have hv0 := heap_old (o' := (.cells #[.int .u8 kx, .string ⟨#[]⟩, .string ⟨#[]⟩, .int .i64 nx, .int .i64 0] 23 (0, 0))) (pset (i := 1) (HH0_3.out) (.string ⟨#[122]⟩) rfl)
  have hh0 : w4.heap[w.heap.size]? = some (.cells #[.int .u8 ka, .string ⟨#[122]⟩, .string txa, .int .i64 na, .int .i64 ma] 23 (0, 0)) := (hb.block _ (heap_lt hv0)).trans hv0
  clear hv0
  have hh1 : w4.heap[w3.heap.size]? = some (.cells #[.int .u8 kx, .string ⟨#[]⟩, .string ⟨#[]⟩, .int .i64 nx, .int .i64 0] 23 (0, 0)) := (hb.block _ (by first | omega | (simp; done) | (simp; omega))).trans (heap_new _ _ _ (by first | rfl | simp))
  have hbw4 : Below w.heap.size w w4 := (show Below w.heap.size w _ by first | exact HW3.out.trans ⟨rfl, rfl, rfl, Nat.le_refl _, fun _ _ => rfl⟩ | exact HW3.out | (go_grown; done)).trans (hb.mono (by first | omega | (simp; done) | (simp; omega)))
  clear hb lt0 c0_0 f0_0 c0_1 f0_1 c0_2 f0_2 c0_3 f0_3 c0_4 f0_4 hbw3
  have HH0_4 := Lib.hid hh0
  have lt0 := heap_lt hh0
  have c0_0 : w4.cell? ⟨w.heap.size, 0, none⟩ = some (.int .u8 ka) := by rw [Lib.cell_of_heap hh0]; rfl
  have f0_0 : w4.frozen? ⟨w.heap.size, 0, none⟩ = false := Lib.frozen_of_heap hh0 0
  have c0_1 : w4.cell? ⟨w.heap.size, 1, none⟩ = some (.string ⟨#[122]⟩) := by rw [Lib.cell_of_heap hh0]; rfl
  have f0_1 : w4.frozen? ⟨w.heap.size, 1, none⟩ = false := Lib.frozen_of_heap hh0 1
  have c0_2 : w4.cell? ⟨w.heap.size, 2, none⟩ = some (.string txa) := by rw [Lib.cell_of_heap hh0]; rfl
  have f0_2 : w4.frozen? ⟨w.heap.size, 2, none⟩ = false := Lib.frozen_of_heap hh0 2
  have c0_3 : w4.cell? ⟨w.heap.size, 3, none⟩ = some (.int .i64 na) := by rw [Lib.cell_of_heap hh0]; rfl
  have f0_3 : w4.frozen? ⟨w.heap.size, 3, none⟩ = false := Lib.frozen_of_heap hh0 3
  have c0_4 : w4.cell? ⟨w.heap.size, 4, none⟩ = some (.int .i64 ma) := by rw [Lib.cell_of_heap hh0]; rfl
  have f0_4 : w4.frozen? ⟨w.heap.size, 4, none⟩ = false := Lib.frozen_of_heap hh0 4
  clear hh0
  have HH1_4 := Lib.hid hh1
  have lt1 := heap_lt hh1
  have c1_0 : w4.cell? ⟨w3.heap.size, 0, none⟩ = some (.int .u8 kx) := by rw [Lib.cell_of_heap hh1]; rfl
  have c1_1 : w4.cell? ⟨w3.heap.size, 1, none⟩ = some (.string ⟨#[]⟩) := by rw [Lib.cell_of_heap hh1]; rfl
  have c1_2 : w4.cell? ⟨w3.heap.size, 2, none⟩ = some (.string ⟨#[]⟩) := by rw [Lib.cell_of_heap hh1]; rfl
  have c1_3 : w4.cell? ⟨w3.heap.size, 3, none⟩ = some (.int .i64 nx) := by rw [Lib.cell_of_heap hh1]; rfl
  have c1_4 : w4.cell? ⟨w3.heap.size, 4, none⟩ = some (.int .i64 0) := by rw [Lib.cell_of_heap hh1]; rfl
  clear hh1
  have sz4 := hbw4.size
  have HW4 := Lib.hid hbw4
  go_wp2_with fail
  refine (HR.out _ (by first | exact HW4.out | exact HW4.out.trans ⟨rfl, rfl, rfl, Nat.le_refl _, fun _ _ => rfl⟩ | (go_grown; done))).mono ?_; rintro e w5 ⟨rfl, hb⟩
  have hv0 := heap_old (o' := (.cells #[.int .u8 kx, .string ⟨#[]⟩, .string ⟨#[]⟩, .int .i64 nx, .int .i64 0] 23 (0, 0))) (HH0_4.out)
  have hh0 : w5.heap[w.heap.size]? = some (.cells #[.int .u8 ka, .string ⟨#[122]⟩, .string txa, .int .i64 na, .int .i64 ma] 23 (0, 0)) := (hb.block _ (heap_lt hv0)).trans hv0
  clear hv0
  have hv1 := heap_old (o' := (.cells #[.int .u8 kx, .string ⟨#[]⟩, .string ⟨#[]⟩, .int .i64 nx, .int .i64 0] 23 (0, 0))) (HH1_4.out)
  have hh1 : w5.heap[w3.heap.size]? = some (.cells #[.int .u8 kx, .string ⟨#[]⟩, .string ⟨#[]⟩, .int .i64 nx, .int .i64 0] 23 (0, 0)) := (hb.block _ (heap_lt hv1)).trans hv1
  clear hv1
  have hh2 : w5.heap[w4.heap.size]? = some (.cells #[.int .u8 kx, .string ⟨#[]⟩, .string ⟨#[]⟩, .int .i64 nx, .int .i64 0] 23 (0, 0)) := (hb.block _ (by first | omega | (simp; done) | (simp; omega))).trans (heap_new _ _ _ (by first | rfl | simp))
  have hbw5 : Below w.heap.size w w5 := (show Below w.heap.size w _ by first | exact HW4.out.trans ⟨rfl, rfl, rfl, Nat.le_refl _, fun _ _ => rfl⟩ | exact HW4.out | (go_grown; done)).trans (hb.mono (by first | omega | (simp; done) | (simp; omega)))
  clear hb lt0 c0_0 f0_0 c0_1 f0_1 c0_2 f0_2 c0_3 f0_3 c0_4 f0_4 lt1 c1_0 c1_1 c1_2 c1_3 c1_4 hbw4
  have HH0_5 := Lib.hid hh0
  have lt0 := heap_lt hh0
  have c0_0 : w5.cell? ⟨w.heap.size, 0, none⟩ = some (.int .u8 ka) := by rw [Lib.cell_of_heap hh0]; rfl
  have f0_0 : w5.frozen? ⟨w.heap.size, 0, none⟩ = false := Lib.frozen_of_heap hh0 0
  have c0_1 : w5.cell? ⟨w.heap.size, 1, none⟩ = some (.string ⟨#[122]⟩) := by rw [Lib.cell_of_heap hh0]; rfl
  have f0_1 : w5.frozen? ⟨w.heap.size, 1, none⟩ = false := Lib.frozen_of_heap hh0 1
  have c0_2 : w5.cell? ⟨w.heap.size, 2, none⟩ = some (.string txa) := by rw [Lib.cell_of_heap hh0]; rfl
  have f0_2 : w5.frozen? ⟨w.heap.size, 2, none⟩ = false := Lib.frozen_of_heap hh0 2
  have c0_3 : w5.cell? ⟨w.heap.size, 3, none⟩ = some (.int .i64 na) := by rw [Lib.cell_of_heap hh0]; rfl
  have f0_3 : w5.frozen? ⟨w.heap.size, 3, none⟩ = false := Lib.frozen_of_heap hh0 3
  have c0_4 : w5.cell? ⟨w.heap.size, 4, none⟩ = some (.int .i64 ma) := by rw [Lib.cell_of_heap hh0]; rfl
  have f0_4 : w5.frozen? ⟨w.heap.size, 4, none⟩ = false := Lib.frozen_of_heap hh0 4
  clear hh0
  have HH1_5 := Lib.hid hh1
  have lt1 := heap_lt hh1
  have c1_0 : w5.cell? ⟨w3.heap.size, 0, none⟩ = some (.int .u8 kx) := by rw [Lib.cell_of_heap hh1]; rfl
  have c1_1 : w5.cell? ⟨w3.heap.size, 1, none⟩ = some (.string ⟨#[]⟩) := by rw [Lib.cell_of_heap hh1]; rfl
  have c1_2 : w5.cell? ⟨w3.heap.size, 2, none⟩ = some (.string ⟨#[]⟩) := by rw [Lib.cell_of_heap hh1]; rfl
  have c1_3 : w5.cell? ⟨w3.heap.size, 3, none⟩ = some (.int .i64 nx) := by rw [Lib.cell_of_heap hh1]; rfl
  have c1_4 : w5.cell? ⟨w3.heap.size, 4, none⟩ = some (.int .i64 0) := by rw [Lib.cell_of_heap hh1]; rfl
  clear hh1
  have HH2_5 := Lib.hid hh2
  have lt2 := heap_lt hh2
  have c2_0 : w5.cell? ⟨w4.heap.size, 0, none⟩ = some (.int .u8 kx) := by rw [Lib.cell_of_heap hh2]; rfl
  have c2_1 : w5.cell? ⟨w4.heap.size, 1, none⟩ = some (.string ⟨#[]⟩) := by rw [Lib.cell_of_heap hh2]; rfl
  have c2_2 : w5.cell? ⟨w4.heap.size, 2, none⟩ = some (.string ⟨#[]⟩) := by rw [Lib.cell_of_heap hh2]; rfl
  have c2_3 : w5.cell? ⟨w4.heap.size, 3, none⟩ = some (.int .i64 nx) := by rw [Lib.cell_of_heap hh2]; rfl
  have c2_4 : w5.cell? ⟨w4.heap.size, 4, none⟩ = some (.int .i64 0) := by rw [Lib.cell_of_heap hh2]; rfl
  clear hh2
  have sz5 := hbw5.size
  have HW5 := Lib.hid hbw5
  go_wp2_with fail
  go_ret
  exact ⟨rfl, by first | exact HW5.out | (go_grown; done)⟩
theorem once16_kind (w : World) (hE : EnvS w) (k : Int) (g : Nat) (c a : Value) (l : Bool) (rd : RdV) (h1 : 1 ≤ k) (h8 : k ≤ 8) (HK : KindC w k g c a l rd) (hc : c.oneCell' = true) (ha : a.oneCell' = true) (HO : OnceR rd) (x : Cl) (hx : (0 ≤ x.k ∧ x.k ≤ 255) ∧ R x.n ∧ R x.m) :
    Calls Tryz.prog 3 #[.int .u8 k, cellV x] w fun e w' => e = .returned (.bool true) ∧ Below w.heap.size w w' := by
  have HG := great16_any x x w
  by_cases g1 : 1000 < x.tx.size ∨ 1000 < x.tx.size
  · rw [decide_eq_true g1] at HG
    exact once16_great k _ _ _ _ _ w hE (Lib.hid HG)
  rw [decide_eq_false g1] at HG
  have hs : x.tx.size ≤ 1000 := by omega
  have q1 : decide (k < 1) = false := decide_eq_false (by omega)
  have q2 : decide (8 < k) = false := decide_eq_false (by omega)
  cases hr : (plainR rd x.k x.tx x.n x.m).2.2.2 with
  | false => exact once16_bad k _ _ _ _ _ w hE q1 q2 (Lib.hid HG) (Lib.hid (readK_no w k g c a l rd HK hc ha x.k x.nm x.tx x.n x.m hx.1.1 hx.1.2 (by omega) hx.2.1 hx.2.2 hr))
  | true =>
    obtain ⟨k', t', v', e1, e2, e3, bk, bt, bv⟩ := HO x.k x.tx x.n x.m hx.1.1 hx.1.2 hs hx.2.1 hx.2.2 hr
    have H1 := readK_go w k g c a l rd HK hc ha x.k x.nm x.tx x.n x.m hx.1.1 hx.1.2 (by omega) hx.2.1 hx.2.2 hr
    have H2 := readK_go w k g c a l rd HK hc ha x.k ⟨#[122]⟩ x.tx x.n x.m hx.1.1 hx.1.2 (by omega) hx.2.1 hx.2.2 hr
    have H3 := readK_go w k g c a l rd HK hc ha k' ⟨#[]⟩ t' v' 0 bk.1 bk.2 bt bv R_zero (by rw [e2])
    rw [e1] at H1 H2
    rw [e2] at H3
    have HR : DoesU w 9 #[.int .u8 k, cellV ⟨k', ⟨#[]⟩, t', v', 0⟩, cellV ⟨k', ⟨#[]⟩, t', v', 0⟩] (.bool true) := fun W hW => reads_yes k _ _ _ _ _ _ _ _ _ _ W (Lib.hid (H3.below hW))
    by_cases hk : k' = 3
    · rw [if_pos hk] at e3
      subst hk e3
      exact once16_txt k _ _ _ _ _ _ w hE (Lib.hid HG) (Lib.hid H1) (Lib.hid H2) (Lib.hid HR)
    · rw [if_neg hk] at e3
      subst e3
      exact once16_num k _ _ _ _ _ _ _ w hE (by simpa using hk) (by simpa using hk) (Lib.hid HG) (Lib.hid H1) (Lib.hid H2) (Lib.hid HR)
theorem once16_none (w : World) (hE : EnvS w) (k : Int) (h0 : 0 ≤ k) (h1 : k ≤ 255) (hk : k = 0 ∨ 9 ≤ k) (x : Cl) :
    Calls Tryz.prog 3 #[.int .u8 k, cellV x] w fun e w' => e = .returned (.bool true) ∧ Below w.heap.size w w' := by
  have HG := great16_any x x w
  by_cases g1 : 1000 < x.tx.size ∨ 1000 < x.tx.size
  · rw [decide_eq_true g1] at HG
    exact once16_great k _ _ _ _ _ w hE (Lib.hid HG)
  rw [decide_eq_false g1] at HG
  rcases hk with rfl | hk
  · exact once16_low _ _ _ _ _ w hE (Lib.hid HG) (Lib.hid fun W _ => sread_arg 0 _ _ _ _ _ W (Lib.hid fun W' _ => of_low W'))
  · exact once16_high k _ _ _ _ _ w hE (decide_eq_false (by omega)) (decide_eq_true (by omega)) (Lib.hid HG) (Lib.hid fun W _ => sread_arg k _ _ _ _ _ W (Lib.hid fun W' _ => of_high k hk h1 W'))
end Go.Proofs.YtjhgiojmlkeccaaGreatDoor
namespace Go.Proofs.YtjhgiojmlkeccaaGreatDoor
open Go.RowKit
def isLet (c : UInt8) : Bool := decide ((97 ≤ c.toNat ∧ c.toNat ≤ 122) ∨ (65 ≤ c.toNat ∧ c.toNat ≤ 90))
/-- A digit to the base of 16: its number, below 0: it is none. -/
def hexI (c : Int) : Int := if 48 ≤ c ∧ c ≤ 57 then c - 48 else if 65 ≤ c ∧ c ≤ 70 then c - 55 else if 97 ≤ c ∧ c ≤ 102 then c - 87 else -1
def isHex (c : UInt8) : Bool := decide (0 ≤ hexI c.toNat)
def isFree (c : UInt8) : Bool := isLet c || isDig c || ([45, 46, 95, 126] : List UInt8).contains c
def delims : List UInt8 := [33, 36, 38, 39, 40, 41, 42, 43, 44, 59, 61]
/-- Does an escape stand there? -/
def esc : List UInt8 → Bool
  | a :: b :: c :: _ => a == 37 && isHex b && isHex c
  | _ => false
/-- Is a text bytes that may be, and escapes? -/
def madeB (p : UInt8 → Bool) : List UInt8 → Bool
  | [] => true
  | [a] => p a
  | [a, b] => p a && p b
  | a :: b :: c :: r => if a == 37 && isHex b && isHex c then madeB p r else p a && madeB p (b :: c :: r)
theorem madeB_cons (p : UInt8 → Bool) (a : UInt8) (l : List UInt8) : madeB p (a :: l) = if esc (a :: l) then madeB p (l.drop 2) else p a && madeB p l := by
  match l with
  | [] => simp [madeB, esc]
  | [b] => simp [madeB, esc]
  | b :: c :: r => rw [madeB]; rfl
theorem madeB_drop (p : UInt8 → Bool) (l : List UInt8) (k : Nat) (h : k < l.length) :
    madeB p (l.drop k) = if esc (l.drop k) then madeB p (l.drop (k + 3)) else p l[k] && madeB p (l.drop (k + 1)) := by
  rw [List.drop_eq_getElem_cons h, madeB_cons, List.drop_drop, ← List.drop_eq_getElem_cons h]
theorem esc_drop (l : List UInt8) (k : Nat) : esc (l.drop k) = if h : k + 2 < l.length then (l[k] == 37 && isHex l[k + 1] && isHex l[k + 2]) else false := by
  split
  · rename_i h
    rw [List.drop_eq_getElem_cons (by omega), List.drop_eq_getElem_cons (by omega), List.drop_eq_getElem_cons h]; rfl
  · rename_i h
    rcases Nat.lt_or_ge k l.length with h1 | h1
    · rcases Nat.lt_or_ge (k + 1) l.length with h2 | h2
      · rw [List.drop_eq_getElem_cons h1, List.drop_eq_getElem_cons h2, List.drop_of_length_le (by omega)]; rfl
      · rw [List.drop_eq_getElem_cons h1, List.drop_of_length_le (by omega)]; rfl
    · rw [List.drop_of_length_le h1]; rfl
end Go.Proofs.YtjhgiojmlkeccaaGreatDoor
namespace Go.Proofs.YtjhgiojmlkeccaaGreatDoor
open Go.RowKit
theorem ret_iQ {k : IntKind} {a c : Int} (h : a = c) : Ending.returned (.int k a) = .returned (.int k c) := by rw [h]
end Go.Proofs.YtjhgiojmlkeccaaGreatDoor
namespace Go.Proofs.YtjhgiojmlkeccaaGreatDoor
open Go.RowKit
theorem byte_eq (c : UInt8) (n : Nat) (h : n < 256) : ((c.toNat : Int) == (n : Int)) = (c == UInt8.ofNat n) := by
  rw [Bool.eq_iff_iff, beq_iff_eq, beq_iff_eq]
  constructor
  · intro e; apply UInt8.toNat_inj.1; rw [UInt8.toNat_ofNat']; omega
  · intro e; rw [e, UInt8.toNat_ofNat']; omega
theorem hexI_hex (c : UInt8) : (isHex c = true ∧ 0 ≤ hexI c.toNat ∧ hexI c.toNat ≤ 15) ∨ (isHex c = false ∧ hexI c.toNat < 0) := by
  unfold isHex
  by_cases h : 0 ≤ hexI c.toNat
  · left
    refine ⟨decide_eq_true h, h, ?_⟩
    unfold hexI; repeat' split
    all_goals omega
  · right
    exact ⟨decide_eq_false h, by omega⟩
theorem esc_at (s : ByteArray) (k : Nat) (h : k + 2 < s.size) : esc (s.data.toList.drop k) = (((s[k].toNat : Int) == 37) && isHex s[k + 1] && isHex s[k + 2]) := by
  rw [esc_drop, dif_pos (by rw [Array.length_toList]; exact h), show ((37 : Int)) = ((37 : Nat) : Int) from rfl, byte_eq _ 37 (by decide)]
  simp only [Array.getElem_toList]; rfl
theorem esc_far (s : ByteArray) (k : Nat) (h : ¬ k + 2 < s.size) : esc (s.data.toList.drop k) = false := by
  rw [esc_drop, dif_neg (by rw [Array.length_toList]; exact h)]
/-- May a byte stand in such a text? -/
def mayBQ (marks : List UInt8) (c : UInt8) : Bool := isFree c || delims.contains c || marks.contains c
theorem drop_step (s : ByteArray) (p : UInt8 → Bool) (k : Nat) (h : k < s.size) :
    madeB p (s.data.toList.drop k) = if esc (s.data.toList.drop k) then madeB p (s.data.toList.drop (k + 3)) else p s[k] && madeB p (s.data.toList.drop (k + 1)) := by
  rw [madeB_drop p _ k (by rw [Array.length_toList]; exact h)]
  simp only [Array.getElem_toList]; rfl
end Go.Proofs.YtjhgiojmlkeccaaGreatDoor
namespace Go.Proofs.YtjhgiojmlkeccaaGreatDoor
open Go.RowKit
def okS (c : UInt8) : Bool := isLet c || isDig c || ([43, 45, 46] : List UInt8).contains c
def schemeB : List UInt8 → Bool
  | [] => false
  | c :: r => isLet c && r.all okS
/-- Parts' text. -/
def tellL (sc us ho po pa qu : List UInt8) (hu hq : Bool) : List UInt8 :=
  sc ++ [58, 47, 47] ++ (if hu then us ++ [64] else []) ++ ho ++ (if po.isEmpty then [] else 58 :: po) ++ pa ++ (if hq then 63 :: qu else [])
theorem empty_iff (b : ByteArray) : (0 < b.size ∧ ¬ b.toList = [] ∧ b.toList.isEmpty = false ∧ b.data.toList.isEmpty = false) ∨ (b.size = 0 ∧ b.toList = [] ∧ b.toList.isEmpty = true ∧ b.data.toList = []) := by
  rw [ByteArray.toList_eq]
  cases h : b.data.toList with
  | nil =>
    right
    have : b.data.toList.length = 0 := by rw [h]; rfl
    rw [Array.length_toList] at this
    exact ⟨this, rfl, rfl, rfl⟩
  | cons c r =>
    left
    have : b.data.toList.length = r.length + 1 := by rw [h]; rfl
    rw [Array.length_toList] at this
    exact ⟨by change b.data.size = _ at this; show 0 < b.data.size; omega, by simp, rfl, rfl⟩
end Go.Proofs.YtjhgiojmlkeccaaGreatDoor
namespace Go.Proofs.YtjhgiojmlkeccaaGreatDoor
open Go.RowKit
def oneL (sc us ho po pa qu : List UInt8) : Bool :=
  schemeB sc && madeB (mayBQ [58]) us && madeB (mayBQ []) ho && po.all isDig && madeB (mayBQ [58, 64, 47]) pa && madeB (mayBQ [58, 64, 47, 63]) qu
def twoL (us pa qu : List UInt8) (hu hq : Bool) : Bool := (pa.isEmpty || pa.head? == some 47) && (hu || us.isEmpty) && (hq || qu.isEmpty)
def mayL (sc us ho po pa qu : List UInt8) (hu hq : Bool) : Bool :=
  oneL sc us ho po pa qu && twoL us pa qu hu hq && decide ((tellL sc us ho po pa qu hu hq).length ≤ 2048)
theorem first_cases (pa : ByteArray) : (pa.size = 0 ∧ pa.toList = [] ∧ pa.toList.isEmpty = true ∧ pa.data.toList = []) ∨ (∃ h : 0 < pa.size, ¬ pa.toList = [] ∧ pa.toList.isEmpty = false ∧ pa.data.toList.isEmpty = false ∧ pa.data.toList.head? = some (pa[0]'h)) := by
  rcases empty_iff pa with ⟨p1, p2, p3, p4⟩ | h
  · right
    refine ⟨p1, p2, p3, p4, ?_⟩
    rw [List.head?_eq_getElem?, List.getElem?_eq_getElem (by rw [Array.length_toList]; exact p1)]
    rfl
  · left; exact h
theorem bcellQ {W w1 : World} (hb : Below W.heap.size W w1) : (∀ b o, b < W.heap.size → w1.cell? ⟨b, o, none⟩ = W.cell? ⟨b, o, none⟩) ∧ (∀ b o, b < W.heap.size → w1.frozen? ⟨b, o, none⟩ = W.frozen? ⟨b, o, none⟩) :=
  ⟨fun b o h => hb.cell (p := ⟨b, o, none⟩) h, fun b o h => hb.frozen (p := ⟨b, o, none⟩) h⟩
theorem tell_size (sc us ho po pa qu : List UInt8) (hu hq : Bool) : (⟨(tellL sc us ho po pa qu hu hq).toArray⟩ : ByteArray).size = (tellL sc us ho po pa qu hu hq).length := by
  change (tellL sc us ho po pa qu hu hq).toArray.size = _
  rw [List.size_toArray]
end Go.Proofs.YtjhgiojmlkeccaaGreatDoor
namespace Go.Proofs.YtjhgiojmlkeccaaGreatDoor
open Go.RowKit
/-- Is a byte's bit set in four words? -/
def hasW (x0 x1 x2 x3 : Nat) (c : Nat) : Bool :=
  (match c / 64 with | 0 => x0 | 1 => x1 | 2 => x2 | _ => x3).testBit (c % 64)
theorem bit_law (x n : Nat) (h : x < 18446744073709551616) : (bits BinOp.and IntKind.u64 ((x : Int) / 2 ^ n) 1 == 1) = x.testBit n := by
  have e : ((x : Int) / 2 ^ n) = ((x / 2 ^ n : Nat) : Int) := by simp
  have hb : x / 2 ^ n < 18446744073709551616 := Nat.lt_of_le_of_lt (Nat.div_le_self _ _) h
  rw [e, show (1 : Int) = ((1 : Nat) : Int) from rfl, bits_and_u64_nat _ _ hb (by decide), Nat.testBit, Nat.shiftRight_eq_div_pow, Nat.and_one_is_mod, Nat.one_and_eq_mod_two]
  have : x / 2 ^ n % 2 < 2 := Nat.mod_lt _ (by decide)
  generalize x / 2 ^ n % 2 = k at *
  rcases (by omega : k = 0 ∨ k = 1) with rfl | rfl <;> rfl
set_option maxRecDepth 100000 in
theorem has_any (x0 x1 x2 x3 : Nat) (h0 : x0 < 18446744073709551616) (h1 : x1 < 18446744073709551616) (h2 : x2 < 18446744073709551616) (h3 : x3 < 18446744073709551616) (c : Nat) (hc : c < 256) (w : World) :
    Calls Tryz.prog 102 #[.agg #[.int .u64 x0, .int .u64 x1, .int .u64 x2, .int .u64 x3], .int .u8 c] w fun e w' => e = .returned (.bool (hasW x0 x1 x2 x3 c)) ∧ Below w.heap.size w w' := by
  have hq : c / 64 = 0 ∨ c / 64 = 1 ∨ c / 64 = 2 ∨ c / 64 = 3 := by omega
  rcases hq with hq | hq | hq | hq
  all_goals
    go_enter Tryz.func102, Tryz.ntmps102
    go_wp2_with fail
    go_ret
    refine ⟨?_, ?_⟩
    · refine ret1 ?_
      unfold hasW
      rw [hq]
      exact bit_law _ _ (by assumption)
    · go_grown
end Go.Proofs.YtjhgiojmlkeccaaGreatDoor
namespace Go.Proofs.YtjhgiojmlkeccaaGreatDoor
open Go.RowKit
/-- A word with a byte's bit set. -/
def orAt (j : Nat) (x : Nat) (c : UInt8) : Nat := if c.toNat / 64 = j then x ||| 2 ^ (c.toNat % 64) else x
def Four (b : Nat) (x0 x1 x2 x3 : Nat) (w : World) : Prop :=
  w.cell? ⟨b, 0, none⟩ = some (.int .u64 x0) ∧ w.cell? ⟨b, 1, none⟩ = some (.int .u64 x1) ∧ w.cell? ⟨b, 2, none⟩ = some (.int .u64 x2) ∧ w.cell? ⟨b, 3, none⟩ = some (.int .u64 x3)
  ∧ w.frozen? ⟨b, 0, none⟩ = false ∧ w.frozen? ⟨b, 1, none⟩ = false ∧ w.frozen? ⟨b, 2, none⟩ = false ∧ w.frozen? ⟨b, 3, none⟩ = false
  ∧ x0 < 18446744073709551616 ∧ x1 < 18446744073709551616 ∧ x2 < 18446744073709551616 ∧ x3 < 18446744073709551616 ∧ b < w.heap.size
def Fold (x0 x1 x2 x3 : Nat) (l : List UInt8) (r0 r1 r2 r3 : Nat) : Prop :=
  l.foldl (orAt 0) x0 = r0 ∧ l.foldl (orAt 1) x1 = r1 ∧ l.foldl (orAt 2) x2 = r2 ∧ l.foldl (orAt 3) x3 = r3
def flat (L : List ByteArray) : List UInt8 := L.flatMap (fun s => s.data.toList)
theorem or_lt (y k : Nat) (hy : y < 18446744073709551616) (hk : k < 64) : y ||| 2 ^ k < 18446744073709551616 :=
  Nat.or_lt_two_pow (n := 64) hy (Nat.pow_lt_pow_right (by decide) hk)
theorem or_law (y k : Nat) (hy : y < 18446744073709551616) (hk : k < 64) : bits BinOp.or IntKind.u64 (y : Int) (IntKind.u64.wrap (2 ^ k)) = ((y ||| 2 ^ k : Nat) : Int) := by
  have hp : 2 ^ k < 18446744073709551616 := Nat.pow_lt_pow_right (m := k) (n := 64) (by decide) hk
  have e : IntKind.u64.wrap (2 ^ k) = ((2 ^ k : Nat) : Int) := by
    rw [IntKind.wrap_u64, show ((2 : Int) ^ k) = ((2 ^ k : Nat) : Int) by simp]
    revert hp
    generalize (2 : Nat) ^ k = z
    intro hp
    omega
  rw [e, bits_or_u64_nat _ _ hy hp]
theorem Four.keep {b : Nat} {x0 x1 x2 x3 : Nat} {w w' : World} (h : Four b x0 x1 x2 x3 w) (hb : Below w.heap.size w w') : Four b x0 x1 x2 x3 w' := by
  obtain ⟨a0, a1, a2, a3, f0, f1, f2, f3, l0, l1, l2, l3, lh⟩ := h
  obtain ⟨cc, ff⟩ := bcellQ hb
  exact ⟨(cc _ _ lh).trans a0, (cc _ _ lh).trans a1, (cc _ _ lh).trans a2, (cc _ _ lh).trans a3, (ff _ _ lh).trans f0, (ff _ _ lh).trans f1, (ff _ _ lh).trans f2, (ff _ _ lh).trans f3, l0, l1, l2, l3, Nat.lt_of_lt_of_le lh hb.size⟩
set_option maxRecDepth 100000 in
theorem of_any (L : List ByteArray) (b n : Nat) (hL : L.length = n) (hn : n ≤ 8) (hsz : ∀ s ∈ L, s.size ≤ 100) (w : World)
    (hc : ∀ (i : Nat) (h : i < L.length), w.cell? ⟨b, i, none⟩ = some (.string L[i])) (hb : b < w.heap.size) (r0 r1 r2 r3 : Nat) (HR : Hid (Fold 0 0 0 0 (flat L) r0 r1 r2 r3)) :
    Calls Tryz.prog 99 #[.slice (some ⟨b, 0, none⟩) n n] w fun e w' => e = .returned (.agg #[.int .u64 r0, .int .u64 r1, .int .u64 r2, .int .u64 r3]) ∧ Below w.heap.size w w' := by
  have kc := Lib.hid (fun (w : World) (s : ByteArray) => run_bytes_of_string (P := Tryz.prog) w 9 131 5 s Tryz.underlying9 Tryz.underlying131 Tryz.underlying5)
  go_enter Tryz.func99, Tryz.ntmps99
  go_wp2_with fail
  go_loopg [9] n (fun k u wr => ∃ (i x0 x1 x2 x3 : Nat), u = .int .i64 i ∧ k + i = n ∧ Four w.heap.size x0 x1 x2 x3 wr ∧ Hid (Fold x0 x1 x2 x3 (flat (L.drop i)) r0 r1 r2 r3) ∧ Below w.heap.size w wr)
  case atStart =>
    refine ⟨0, 0, 0, 0, 0, rfl, by omega, ⟨by simp [go_sem], by simp [go_sem], by simp [go_sem], by simp [go_sem], by simp [go_sem], by simp [go_sem], by simp [go_sem], by simp [go_sem], by decide, by decide, by decide, by decide, by simp⟩, HR, ?_⟩
    go_grown
  case round =>
    rename World => wo
    obtain ⟨i, x0, x1, x2, x3, rfl, hk, h4, HF, hbw⟩ := hrel
    by_cases hlt : i < n
    · have hs := hc i (by omega)
      obtain ⟨s, hsL⟩ : ∃ s, L[i]'(by omega) = s := ⟨_, rfl⟩
      rw [hsL] at hs
      have hsi : wo.cell? ⟨b, i, none⟩ = some (.string s) := (hbw.cell (p := ⟨b, i, none⟩) hb).trans hs
      have kc2 := kc.out wo s
      clear hs kc
      have hss : s.size ≤ 100 := by rw [← hsL]; exact hsz _ (List.getElem_mem _)
      have HF2 : Hid (Fold x0 x1 x2 x3 (s.data.toList.drop 0 ++ flat (L.drop (i + 1))) r0 r1 r2 r3) := Lib.hid (by
        have := HF.out
        rw [List.drop_eq_getElem_cons (by omega), hsL] at this
        exact this)
      have HC := Lib.hid hc
      clear hsL HF hc hsz
      obtain ⟨g, rfl⟩ : ∃ g, gk = g + 1 := ⟨gk - 1, by omega⟩
      go_wp2_with fail
      clear kc2
      go_loopg [16] s.size (fun k u wi => ∃ (j y0 y1 y2 y3 : Nat), u = .int .i64 j ∧ k + j = s.size ∧ Four w.heap.size y0 y1 y2 y3 wi ∧ Hid (∀ (j : Nat) (h : j < s.size), wi.cell? ⟨wo.heap.size, j, none⟩ = some (.int .u8 s[j].toNat)) ∧ Hid (Fold y0 y1 y2 y3 (s.data.toList.drop j ++ flat (L.drop (i + 1))) r0 r1 r2 r3) ∧ Below w.heap.size w wi ∧ wo.heap.size < wi.heap.size)
      case atStart =>
        refine ⟨0, x0, x1, x2, x3, rfl, by omega, h4.keep ?_ , Lib.hid ?_, HF2, ?_, by simp⟩
        · go_grown
        · intro j hj
          change (wo.alloc _).cell? _ = _
          rw [World.cell?_alloc_mark]
          exact bytesRow_at s _ j hj
        · have hzz : w.heap.size ≤ wo.heap.size := hbw.size
          go_grown
      case round =>
        obtain ⟨j, y0, y1, y2, y3, rfl, hk2, ⟨a0, a1, a2, a3, f0, f1, f2, f3, l0, l1, l2, l3, lh⟩, HB, HG, hbw2, hsz2⟩ := hrel
        by_cases hlj : j < s.size
        · have hj := HB.out j hlj
          obtain ⟨g2, rfl⟩ : ∃ g2, gk = g2 + 1 := ⟨gk - 1, by omega⟩
          have hne : ¬ w.heap.size = wo.heap.size := by have := h4.2.2.2.2.2.2.2.2.2.2.2.2; omega
          have hc256 : s[j].toNat < 256 := UInt8.toNat_lt _
          have hd : s.data.toList.drop j = s[j] :: s.data.toList.drop (j + 1) := by
            rw [List.drop_eq_getElem_cons (by rw [Array.length_toList]; exact hlj)]; rfl
          have HG2 := HG.out
          rw [hd] at HG2
          unfold Fold at HG2
          simp only [List.cons_append, List.foldl_cons] at HG2
          have HG3 := Lib.hid HG2
          clear HG2 hd HG
          generalize s[j] = c at *
          have hq : c.toNat / 64 = 0 ∨ c.toNat / 64 = 1 ∨ c.toNat / 64 = 2 ∨ c.toNat / 64 = 3 := by omega
          rcases hq with hq | hq | hq | hq
          · have HG4 := HG3.out
            rw [show orAt 0 y0 c = y0 ||| 2 ^ (c.toNat % 64) from if_pos hq, show orAt 1 y1 c = y1 from if_neg (by omega), show orAt 2 y2 c = y2 from if_neg (by omega), show orAt 3 y3 c = y3 from if_neg (by omega)] at HG4
            have HG5 := Lib.hid HG4
            clear HG4 HG3
            go_wp2_with fail
            go_roundg g2
            case measure => omega
            case rel =>
              rw [or_law _ _ l0 (by omega)]
              refine ⟨j + 1, y0 ||| 2 ^ (c.toNat % 64), y1, y2, y3, by go_num, by omega, ⟨by simp [go_sem, *], by simp [go_sem, *], by simp [go_sem, *], by simp [go_sem, *], by simp [go_sem, *], by simp [go_sem, *], by simp [go_sem, *], by simp [go_sem, *], or_lt _ _ l0 (by omega), l1, l2, l3, by simpa using lh⟩, Lib.hid ?_, HG5, ?_, by simpa using hsz2⟩
              · intro j' hj'
                have := HB.out j' hj'
                simp [go_sem, *]
              · go_grown
          · have HG4 := HG3.out
            rw [show orAt 0 y0 c = y0 from if_neg (by omega), show orAt 1 y1 c = y1 ||| 2 ^ (c.toNat % 64) from if_pos hq, show orAt 2 y2 c = y2 from if_neg (by omega), show orAt 3 y3 c = y3 from if_neg (by omega)] at HG4
            have HG5 := Lib.hid HG4
            clear HG4 HG3
            go_wp2_with fail
            go_roundg g2
            case measure => omega
            case rel =>
              rw [or_law _ _ l1 (by omega)]
              refine ⟨j + 1, y0, y1 ||| 2 ^ (c.toNat % 64), y2, y3, by go_num, by omega, ⟨by simp [go_sem, *], by simp [go_sem, *], by simp [go_sem, *], by simp [go_sem, *], by simp [go_sem, *], by simp [go_sem, *], by simp [go_sem, *], by simp [go_sem, *], l0, or_lt _ _ l1 (by omega), l2, l3, by simpa using lh⟩, Lib.hid ?_, HG5, ?_, by simpa using hsz2⟩
              · intro j' hj'
                have := HB.out j' hj'
                simp [go_sem, *]
              · go_grown
          · have HG4 := HG3.out
            rw [show orAt 0 y0 c = y0 from if_neg (by omega), show orAt 1 y1 c = y1 from if_neg (by omega), show orAt 2 y2 c = y2 ||| 2 ^ (c.toNat % 64) from if_pos hq, show orAt 3 y3 c = y3 from if_neg (by omega)] at HG4
            have HG5 := Lib.hid HG4
            clear HG4 HG3
            go_wp2_with fail
            go_roundg g2
            case measure => omega
            case rel =>
              rw [or_law _ _ l2 (by omega)]
              refine ⟨j + 1, y0, y1, y2 ||| 2 ^ (c.toNat % 64), y3, by go_num, by omega, ⟨by simp [go_sem, *], by simp [go_sem, *], by simp [go_sem, *], by simp [go_sem, *], by simp [go_sem, *], by simp [go_sem, *], by simp [go_sem, *], by simp [go_sem, *], l0, l1, or_lt _ _ l2 (by omega), l3, by simpa using lh⟩, Lib.hid ?_, HG5, ?_, by simpa using hsz2⟩
              · intro j' hj'
                have := HB.out j' hj'
                simp [go_sem, *]
              · go_grown
          · have HG4 := HG3.out
            rw [show orAt 0 y0 c = y0 from if_neg (by omega), show orAt 1 y1 c = y1 from if_neg (by omega), show orAt 2 y2 c = y2 from if_neg (by omega), show orAt 3 y3 c = y3 ||| 2 ^ (c.toNat % 64) from if_pos hq] at HG4
            have HG5 := Lib.hid HG4
            clear HG4 HG3
            go_wp2_with fail
            go_roundg g2
            case measure => omega
            case rel =>
              rw [or_law _ _ l3 (by omega)]
              refine ⟨j + 1, y0, y1, y2, y3 ||| 2 ^ (c.toNat % 64), by go_num, by omega, ⟨by simp [go_sem, *], by simp [go_sem, *], by simp [go_sem, *], by simp [go_sem, *], by simp [go_sem, *], by simp [go_sem, *], by simp [go_sem, *], by simp [go_sem, *], l0, l1, l2, or_lt _ _ l3 (by omega), by simpa using lh⟩, Lib.hid ?_, HG5, ?_, by simpa using hsz2⟩
              · intro j' hj'
                have := HB.out j' hj'
                simp [go_sem, *]
              · go_grown
        · have HG2 := HG.out
          rw [List.drop_of_length_le (by rw [Array.length_toList]; exact Nat.le_of_not_lt hlj), List.nil_append] at HG2
          have HG3 := Lib.hid HG2
          clear HG2 HG
          go_wp2_with fail
          go_roundg g
          case measure => omega
          case rel => exact ⟨i + 1, y0, y1, y2, y3, by go_num, by omega, ⟨a0, a1, a2, a3, f0, f1, f2, f3, l0, l1, l2, l3, lh⟩, HG3, hbw2⟩
    · have hi : i = n := by omega
      subst hi
      obtain ⟨e0, e1, e2, e3⟩ : x0 = r0 ∧ x1 = r1 ∧ x2 = r2 ∧ x3 = r3 := by
        have := HF.out
        rw [List.drop_of_length_le (by omega)] at this
        exact this
      subst e0 e1 e2 e3
      obtain ⟨a0, a1, a2, a3, f0, f1, f2, f3, l0, l1, l2, l3, lh⟩ := h4
      clear hc HF HR kc
      go_wp2_with fail
      refine bodyPost_ret (v := .agg #[.int .u64 x0, .int .u64 x1, .int .u64 x2, .int .u64 x3]) (by simp [results, Tryz.results99, go_sem, *]) rfl ⟨rfl, ?_⟩
      go_grown
end Go.Proofs.YtjhgiojmlkeccaaGreatDoor
namespace Go.Proofs.YtjhgiojmlkeccaaGreatDoor
open Go.RowKit
theorem keep8 {w W w1 : World} {b : Nat} {y0 y1 y2 y3 : Value} (h : W.cell? ⟨b, 0, none⟩ = some y0 ∧ W.cell? ⟨b, 1, none⟩ = some y1 ∧ W.cell? ⟨b, 2, none⟩ = some y2 ∧ W.cell? ⟨b, 3, none⟩ = some y3 ∧ b < W.heap.size ∧ Below w.heap.size w W) (hb : Below W.heap.size W w1) :
    w1.cell? ⟨b, 0, none⟩ = some y0 ∧ w1.cell? ⟨b, 1, none⟩ = some y1 ∧ w1.cell? ⟨b, 2, none⟩ = some y2 ∧ w1.cell? ⟨b, 3, none⟩ = some y3 ∧ b < w1.heap.size ∧ Below w.heap.size w w1 := by
  obtain ⟨h0, h1, h2, h3, hl, hw⟩ := h
  obtain ⟨cc, ff⟩ := bcellQ hb
  exact ⟨(cc _ _ hl).trans h0, (cc _ _ hl).trans h1, (cc _ _ hl).trans h2, (cc _ _ hl).trans h3, Nat.lt_of_lt_of_le hl hb.size, hw.trans (hb.mono hw.size)⟩
theorem ext_drop (s : ByteArray) (j : Nat) : (s.extract j s.size).data.toList = s.data.toList.drop j := by
  rw [ByteArray.data_extract, Array.toList_extract, List.extract_eq_take_drop]
  exact List.take_of_length_le (by rw [List.length_drop, Array.length_toList]; exact Nat.le_refl _)
set_option maxRecDepth 100000 in
set_option maxHeartbeats 2000000 in
theorem made_anyQ (HB : Hid (∀ (s : ByteArray) (w : World), s.size ≤ 1000000 → Calls Tryz.prog 100 #[.string s] w fun e w' => (∃ n : Int, e = .returned (.tuple #[.int .u8 n, .bool (esc s.data.toList)])) ∧ Below w.heap.size w w'))
    (s : ByteArray) (hs : s.size ≤ 1000000) (x0 x1 x2 x3 : Nat) (h0 : x0 < 18446744073709551616) (h1 : x1 < 18446744073709551616) (h2 : x2 < 18446744073709551616) (h3 : x3 < 18446744073709551616) (p : UInt8 → Bool) (hp : Hid (∀ c : UInt8, hasW x0 x1 x2 x3 c.toNat = p c)) (w : World) :
    Calls Tryz.prog 147 #[.string s, .agg #[.int .u64 x0, .int .u64 x1, .int .u64 x2, .int .u64 x3]] w fun e w' => e = .returned (.bool (madeB p s.data.toList)) ∧ Below w.heap.size w w' := by
  obtain ⟨r, hr⟩ : ∃ r, madeB p s.data.toList = r := ⟨_, rfl⟩
  have HR : Hid (madeB p (s.data.toList.drop 0) = r) := Lib.hid (by rw [List.drop_zero]; exact hr)
  rw [hr]
  clear hr
  go_enter Tryz.func147, Tryz.ntmps147
  go_wp2_with fail
  go_loopg [5] s.size (fun k i wr => ∃ j : Nat, i = .int .i64 j ∧ j ≤ s.size ∧ k + j = s.size ∧ Hid (madeB p (s.data.toList.drop j) = r) ∧ wr.cell? ⟨w.heap.size, 0, none⟩ = some (.int .u64 x0) ∧ wr.cell? ⟨w.heap.size, 1, none⟩ = some (.int .u64 x1) ∧ wr.cell? ⟨w.heap.size, 2, none⟩ = some (.int .u64 x2) ∧ wr.cell? ⟨w.heap.size, 3, none⟩ = some (.int .u64 x3) ∧ w.heap.size < wr.heap.size ∧ Below w.heap.size w wr)
  case atStart =>
    refine ⟨0, rfl, by omega, by omega, HR, by simp [go_sem], by simp [go_sem], by simp [go_sem], by simp [go_sem], by simp, ?_⟩
    go_grown
  case round =>
    obtain ⟨j, rfl, hj, hk, HK, c0, c1, c2, c3, hlt, hbw⟩ := hrel
    by_cases hlj : j < s.size
    · obtain ⟨g, rfl⟩ : ∃ g, gk = g + 1 := ⟨gk - 1, by omega⟩
      have HE := Lib.hid (fun w => HB.out (s.extract j s.size) w (by rw [ByteArray.size_extract]; omega))
      rw [ext_drop] at HE
      have hst := drop_step s p j hlj
      rw [HK.out] at hst
      cases he : esc (s.data.toList.drop j) with
      | true =>
        have h3 : j + 2 < s.size := by
          by_cases q : j + 2 < s.size
          · exact q
          · rw [esc_far s j q] at he; cases he
        rw [he] at HE hst
        have HK2 : Hid (madeB p (s.data.toList.drop (j + 3)) = r) := Lib.hid hst.symm
        clear he hst HK
        obtain ⟨g2, rfl⟩ : ∃ g2, g = g2 + 2 := ⟨g - 2, by omega⟩
        go_wp2_with fail
        refine (HE.out _).mono ?_; rintro e w1 ⟨⟨m, rfl⟩, hb1⟩
        obtain ⟨cc, ff⟩ := bcellQ hb1
        have d0 : w1.cell? ⟨w.heap.size, 0, none⟩ = some (.int .u64 x0) := (cc _ _ hlt).trans c0
        have d1 : w1.cell? ⟨w.heap.size, 1, none⟩ = some (.int .u64 x1) := (cc _ _ hlt).trans c1
        have d2 : w1.cell? ⟨w.heap.size, 2, none⟩ = some (.int .u64 x2) := (cc _ _ hlt).trans c2
        have d3 : w1.cell? ⟨w.heap.size, 3, none⟩ = some (.int .u64 x3) := (cc _ _ hlt).trans c3
        have hlt1 : w.heap.size < w1.heap.size := Nat.lt_of_lt_of_le hlt hb1.size
        have hbw1 : Below w.heap.size w w1 := hbw.trans (hb1.mono (by omega))
        clear cc ff hb1 c0 c1 c2 c3
        go_wp2_with fail
        go_roundg g2
        case measure => omega
        case rel => exact ⟨j + 3, by go_num, by omega, by omega, HK2, d0, d1, d2, d3, hlt1, hbw1⟩
      | false =>
        rw [he] at HE hst
        have HH := Lib.hid (fun w => has_any x0 x1 x2 x3 h0 h1 h2 h3 s[j].toNat (UInt8.toNat_lt _) w)
        rw [hp.out s[j]] at HH
        clear he HK
        cases hpb : p s[j] with
        | true =>
          rw [hpb] at HH hst
          have HK2 : Hid (madeB p (s.data.toList.drop (j + 1)) = r) := Lib.hid hst.symm
          clear hst hpb
          go_wp2_with fail
          refine (HE.out _).mono ?_; rintro e w1 ⟨⟨m, rfl⟩, hb1⟩
          obtain ⟨cc, ff⟩ := bcellQ hb1
          have d0 : w1.cell? ⟨w.heap.size, 0, none⟩ = some (.int .u64 x0) := (cc _ _ hlt).trans c0
          have d1 : w1.cell? ⟨w.heap.size, 1, none⟩ = some (.int .u64 x1) := (cc _ _ hlt).trans c1
          have d2 : w1.cell? ⟨w.heap.size, 2, none⟩ = some (.int .u64 x2) := (cc _ _ hlt).trans c2
          have d3 : w1.cell? ⟨w.heap.size, 3, none⟩ = some (.int .u64 x3) := (cc _ _ hlt).trans c3
          have hlt1 : w.heap.size < w1.heap.size := Nat.lt_of_lt_of_le hlt hb1.size
          have hbw1 : Below w.heap.size w w1 := hbw.trans (hb1.mono (by omega))
          clear cc ff hb1 c0 c1 c2 c3
          go_wp2_with fail
          go_region_held3 (fun W => W.cell? ⟨w.heap.size, 0, none⟩ = some (.int .u64 x0) ∧ W.cell? ⟨w.heap.size, 1, none⟩ = some (.int .u64 x1) ∧ W.cell? ⟨w.heap.size, 2, none⟩ = some (.int .u64 x2) ∧ W.cell? ⟨w.heap.size, 3, none⟩ = some (.int .u64 x3) ∧ w.heap.size < W.heap.size ∧ Below w.heap.size w W)
            (first | assumption | exact keep8 (by assumption) (by assumption) | (refine ⟨by simp [go_sem, *], by simp [go_sem, *], by simp [go_sem, *], by simp [go_sem, *], by simpa using hlt1, ?_⟩; go_grown; done))
            (first | (refine (HH.out _).mono ?_; rintro e w2 ⟨rfl, hb⟩))
          rename_i hS
          obtain ⟨k0, k1, k2, k3, hlt2, hbw2⟩ := hS
          go_wp2_with fail
          go_roundg g
          case measure => omega
          case rel => exact ⟨j + 1, by go_num, by omega, by omega, HK2, k0, k1, k2, k3, hlt2, hbw2⟩
        | false =>
          rw [hpb] at HH hst
          have HK2 : Hid (false = r) := Lib.hid hst.symm
          clear hst hpb
          go_wp2_with fail
          refine (HE.out _).mono ?_; rintro e w1 ⟨⟨m, rfl⟩, hb1⟩
          obtain ⟨cc, ff⟩ := bcellQ hb1
          have d0 : w1.cell? ⟨w.heap.size, 0, none⟩ = some (.int .u64 x0) := (cc _ _ hlt).trans c0
          have d1 : w1.cell? ⟨w.heap.size, 1, none⟩ = some (.int .u64 x1) := (cc _ _ hlt).trans c1
          have d2 : w1.cell? ⟨w.heap.size, 2, none⟩ = some (.int .u64 x2) := (cc _ _ hlt).trans c2
          have d3 : w1.cell? ⟨w.heap.size, 3, none⟩ = some (.int .u64 x3) := (cc _ _ hlt).trans c3
          have hlt1 : w.heap.size < w1.heap.size := Nat.lt_of_lt_of_le hlt hb1.size
          have hbw1 : Below w.heap.size w w1 := hbw.trans (hb1.mono (by omega))
          clear cc ff hb1 c0 c1 c2 c3
          go_wp2_with fail
          go_region_held3 (fun W => W.cell? ⟨w.heap.size, 0, none⟩ = some (.int .u64 x0) ∧ W.cell? ⟨w.heap.size, 1, none⟩ = some (.int .u64 x1) ∧ W.cell? ⟨w.heap.size, 2, none⟩ = some (.int .u64 x2) ∧ W.cell? ⟨w.heap.size, 3, none⟩ = some (.int .u64 x3) ∧ w.heap.size < W.heap.size ∧ Below w.heap.size w W)
            (first | assumption | exact keep8 (by assumption) (by assumption) | (refine ⟨by simp [go_sem, *], by simp [go_sem, *], by simp [go_sem, *], by simp [go_sem, *], by simpa using hlt1, ?_⟩; go_grown; done))
            (first | (refine (HH.out _).mono ?_; rintro e w2 ⟨rfl, hb⟩))
          rename_i hS
          obtain ⟨k0, k1, k2, k3, hlt2, hbw2⟩ := hS
          go_wp2_with fail
          go_ret
          exact ⟨ret1 HK2.out, hbw2⟩
    · have HF : Hid (true = r) := Lib.hid (by
        have := HK.out
        rw [List.drop_of_length_le (by rw [Array.length_toList]; exact Nat.le_of_not_lt hlj)] at this
        exact this)
      go_wp2_with fail
      go_ret
      exact ⟨ret1 HF.out, hbw⟩
end Go.Proofs.YtjhgiojmlkeccaaGreatDoor
namespace Go.Proofs.YtjhgiojmlkeccaaGreatDoor
theorem all_bytes {f g : UInt8 → Bool} (h : ∀ i : Fin 256, f (UInt8.ofNat i.val) = g (UInt8.ofNat i.val)) (c : UInt8) : f c = g c := by
  have := h ⟨c.toNat, UInt8.toNat_lt c⟩
  simpa using this
theorem fold_letters : Fold 0 0 0 0 (flat [⟨#[97, 98, 99, 100, 101, 102, 103, 104, 105, 106, 107, 108, 109, 110, 111, 112, 113, 114, 115, 116, 117, 118, 119, 120, 121, 122]⟩, ⟨#[65, 66, 67, 68, 69, 70, 71, 72, 73, 74, 75, 76, 77, 78, 79, 80, 81, 82, 83, 84, 85, 86, 87, 88, 89, 90]⟩]) 0 576460743847706622 0 0 := by
  unfold Fold
  exact ⟨by decide +kernel, by decide +kernel, by decide +kernel, by decide +kernel⟩
theorem has_letters (c : UInt8) : hasW 0 576460743847706622 0 0 c.toNat = isLet c := by
  refine all_bytes (f := fun c => hasW 0 576460743847706622 0 0 c.toNat) (g := isLet) ?_ c
  decide +kernel
theorem fold_scheme : Fold 0 0 0 0 (flat [⟨#[97, 98, 99, 100, 101, 102, 103, 104, 105, 106, 107, 108, 109, 110, 111, 112, 113, 114, 115, 116, 117, 118, 119, 120, 121, 122]⟩, ⟨#[65, 66, 67, 68, 69, 70, 71, 72, 73, 74, 75, 76, 77, 78, 79, 80, 81, 82, 83, 84, 85, 86, 87, 88, 89, 90]⟩, ⟨#[48, 49, 50, 51, 52, 53, 54, 55, 56, 57]⟩, ⟨#[43, 45, 46]⟩]) 288063250384289792 576460743847706622 0 0 := by
  unfold Fold
  exact ⟨by decide +kernel, by decide +kernel, by decide +kernel, by decide +kernel⟩
theorem has_scheme (c : UInt8) : hasW 288063250384289792 576460743847706622 0 0 c.toNat = okS c := by
  refine all_bytes (f := fun c => hasW 288063250384289792 576460743847706622 0 0 c.toNat) (g := okS) ?_ c
  decide +kernel
theorem fold_user : Fold 0 0 0 0 (flat [⟨#[97, 98, 99, 100, 101, 102, 103, 104, 105, 106, 107, 108, 109, 110, 111, 112, 113, 114, 115, 116, 117, 118, 119, 120, 121, 122, 65, 66, 67, 68, 69, 70, 71, 72, 73, 74, 75, 76, 77, 78, 79, 80, 81, 82, 83, 84, 85, 86, 87, 88, 89, 90, 48, 49, 50, 51, 52, 53, 54, 55, 56, 57, 45, 46, 95, 126]⟩, ⟨#[33, 36, 38, 39, 40, 41, 42, 43, 44, 59, 61]⟩, ⟨#[58]⟩]) 3458623578763689984 5188146764422578174 0 0 := by
  unfold Fold
  exact ⟨by decide +kernel, by decide +kernel, by decide +kernel, by decide +kernel⟩
theorem has_user (c : UInt8) : hasW 3458623578763689984 5188146764422578174 0 0 c.toNat = (mayBQ [58]) c := by
  refine all_bytes (f := fun c => hasW 3458623578763689984 5188146764422578174 0 0 c.toNat) (g := (mayBQ [58])) ?_ c
  decide +kernel
theorem fold_host : Fold 0 0 0 0 (flat [⟨#[97, 98, 99, 100, 101, 102, 103, 104, 105, 106, 107, 108, 109, 110, 111, 112, 113, 114, 115, 116, 117, 118, 119, 120, 121, 122, 65, 66, 67, 68, 69, 70, 71, 72, 73, 74, 75, 76, 77, 78, 79, 80, 81, 82, 83, 84, 85, 86, 87, 88, 89, 90, 48, 49, 50, 51, 52, 53, 54, 55, 56, 57, 45, 46, 95, 126]⟩, ⟨#[33, 36, 38, 39, 40, 41, 42, 43, 44, 59, 61]⟩]) 3170393202611978240 5188146764422578174 0 0 := by
  unfold Fold
  exact ⟨by decide +kernel, by decide +kernel, by decide +kernel, by decide +kernel⟩
theorem has_host (c : UInt8) : hasW 3170393202611978240 5188146764422578174 0 0 c.toNat = (mayBQ []) c := by
  refine all_bytes (f := fun c => hasW 3170393202611978240 5188146764422578174 0 0 c.toNat) (g := (mayBQ [])) ?_ c
  decide +kernel
theorem fold_path : Fold 0 0 0 0 (flat [⟨#[97, 98, 99, 100, 101, 102, 103, 104, 105, 106, 107, 108, 109, 110, 111, 112, 113, 114, 115, 116, 117, 118, 119, 120, 121, 122, 65, 66, 67, 68, 69, 70, 71, 72, 73, 74, 75, 76, 77, 78, 79, 80, 81, 82, 83, 84, 85, 86, 87, 88, 89, 90, 48, 49, 50, 51, 52, 53, 54, 55, 56, 57, 45, 46, 95, 126]⟩, ⟨#[33, 36, 38, 39, 40, 41, 42, 43, 44, 59, 61]⟩, ⟨#[58, 64, 47]⟩]) 3458764316252045312 5188146764422578175 0 0 := by
  unfold Fold
  exact ⟨by decide +kernel, by decide +kernel, by decide +kernel, by decide +kernel⟩
theorem has_path (c : UInt8) : hasW 3458764316252045312 5188146764422578175 0 0 c.toNat = (mayBQ [58, 64, 47]) c := by
  refine all_bytes (f := fun c => hasW 3458764316252045312 5188146764422578175 0 0 c.toNat) (g := (mayBQ [58, 64, 47])) ?_ c
  decide +kernel
theorem fold_query : Fold 0 0 0 0 (flat [⟨#[97, 98, 99, 100, 101, 102, 103, 104, 105, 106, 107, 108, 109, 110, 111, 112, 113, 114, 115, 116, 117, 118, 119, 120, 121, 122, 65, 66, 67, 68, 69, 70, 71, 72, 73, 74, 75, 76, 77, 78, 79, 80, 81, 82, 83, 84, 85, 86, 87, 88, 89, 90, 48, 49, 50, 51, 52, 53, 54, 55, 56, 57, 45, 46, 95, 126]⟩, ⟨#[33, 36, 38, 39, 40, 41, 42, 43, 44, 59, 61]⟩, ⟨#[58, 64, 47, 63]⟩]) 12682136353106821120 5188146764422578175 0 0 := by
  unfold Fold
  exact ⟨by decide +kernel, by decide +kernel, by decide +kernel, by decide +kernel⟩
theorem has_query (c : UInt8) : hasW 12682136353106821120 5188146764422578175 0 0 c.toNat = (mayBQ [58, 64, 47, 63]) c := by
  refine all_bytes (f := fun c => hasW 12682136353106821120 5188146764422578175 0 0 c.toNat) (g := (mayBQ [58, 64, 47, 63])) ?_ c
  decide +kernel
theorem fold_free : Fold 0 0 0 0 (flat [⟨#[97, 98, 99, 100, 101, 102, 103, 104, 105, 106, 107, 108, 109, 110, 111, 112, 113, 114, 115, 116, 117, 118, 119, 120, 121, 122, 65, 66, 67, 68, 69, 70, 71, 72, 73, 74, 75, 76, 77, 78, 79, 80, 81, 82, 83, 84, 85, 86, 87, 88, 89, 90, 48, 49, 50, 51, 52, 53, 54, 55, 56, 57, 45, 46, 95, 126]⟩]) 288054454291267584 5188146764422578174 0 0 := by
  unfold Fold
  exact ⟨by decide +kernel, by decide +kernel, by decide +kernel, by decide +kernel⟩
theorem has_free (c : UInt8) : hasW 288054454291267584 5188146764422578174 0 0 c.toNat = isFree c := by
  refine all_bytes (f := fun c => hasW 288054454291267584 5188146764422578174 0 0 c.toNat) (g := isFree) ?_ c
  decide +kernel
end Go.Proofs.YtjhgiojmlkeccaaGreatDoor
namespace Go.Proofs.YtjhgiojmlkeccaaGreatDoor
open Go.RowKit
theorem bld_size : (Tryz.prog.info? 156).map (·.size) = some 2 := by kernel_rfl
theorem bld_lies : liesAt Tryz.prog Tryz.prog.depth 156 (2 / Tryz.prog.cellsOf 156) 0 156 1 = true := by kernel_rfl
set_option maxRecDepth 100000 in
theorem copy_used (b : Nat) (w : World) (h0 : w.cell? ⟨b, 0, none⟩ = some (.pointer (some ⟨b, 0, none⟩))) :
    Calls Tryz.prog 148 #[.pointer (some ⟨b, 0, none⟩)] w fun e w' => e = .returned (.tuple #[]) ∧ w' = w := by
  obtain ⟨j, hj, _⟩ := Option.map_eq_some_iff.1 bld_size
  go_enter Tryz.func148, Tryz.ntmps148
  go_wp2
  rw [Lib.run_neq_ptr_same w _ Tryz.underlying154 hj]
  go_wp2
  go_end0
  exact ⟨rfl, rfl⟩
set_option maxRecDepth 100000 in
theorem copy_fresh (b : Nat) (w : World) (h0 : w.cell? ⟨b, 0, none⟩ = some (.pointer none)) (hsh : w.shape? b = some (156, 2)) (hfz : w.frozen? ⟨b, 0, none⟩ = false) :
    Calls Tryz.prog 148 #[.pointer (some ⟨b, 0, none⟩)] w fun e w' => e = .returned (.tuple #[]) ∧ w' = w.setCell ⟨b, 0, none⟩ (.pointer (some ⟨b, 0, none⟩)) := by
  obtain ⟨j, hj, hjs⟩ := Option.map_eq_some_iff.1 bld_size
  go_enter Tryz.func148, Tryz.ntmps148
  go_wp2
  rw [Lib.run_to_unsafe w ⟨b, 0, none⟩ Tryz.underlying154 Tryz.underlying219 hj (by rw [hjs]; decide) hsh (Nat.zero_lt_succ 1)]
  simp only [Result.andThen]
  rw [Oper.upon_value]
  go_wp2
  rw [run_callFunc_extern Tryz.func181 (by kernel_rfl) (by kernel_rfl) (by kernel_rfl) (e := Extern.AbiNoEscape.same) (by kernel_rfl)]
  rw [Lib.run_noEscape]
  simp only [Result.andThen]
  rw [Oper.upon_value]
  go_wp2
  rw [Lib.run_from_unsafe w ⟨b, 0, none⟩ Tryz.underlying219 Tryz.underlying154 hj hsh bld_lies]
  simp only [Result.andThen]
  rw [Oper.upon_value]
  go_wp2
  go_end0
  exact ⟨rfl, rfl⟩
theorem copy_any (B b : Nat) (bs : List Value) (w : World) (h : Lib.IsBuilder 156 5 B b bs w) :
    Calls Tryz.prog 148 #[.pointer (some ⟨b, 0, none⟩)] w fun e w' => e = .returned (.tuple #[]) ∧ (Lib.BuilderAt 156 5 B b (.pointer (some ⟨b, 0, none⟩)) bs w' ∧ Below B w w' ∧ Lib.OthersKept 5 (some b) w w') := by
  rcases h with h | h
  · refine (copy_fresh b w h.cell0 h.shape h.frozen0).mono ?_
    rintro e w' ⟨rfl, rfl⟩
    exact ⟨rfl, h.used _, (Below.refl B w).setCell (p := ⟨b, 0, none⟩) h.1 _, (Lib.OthersKept.refl _ _ w).setCell ⟨b, 0, none⟩ rfl _⟩
  · refine (copy_used b w h.cell0).mono ?_
    rintro e w' ⟨rfl, rfl⟩
    exact ⟨rfl, h, Below.refl B _, Lib.OthersKept.refl _ _ _⟩
end Go.Proofs.YtjhgiojmlkeccaaGreatDoor
namespace Go.Proofs.YtjhgiojmlkeccaaGreatDoor
open Go.RowKit
theorem byte_info : (Tryz.prog.info? 5).map (fun i => (i.zero, i.size, i.bytes)) = some (some (.int .u8 0), 1, 1) := by kernel_rfl
set_option maxHeartbeats 1000000 in
set_option maxRecDepth 100000 in
theorem write_anyQ (B b : Nat) (bs : List Value) (s : ByteArray) (w : World) (h : Lib.IsBuilder 156 5 B b bs w) (hlen : bs.length + s.size ≤ 140737488355328) (hBw : B ≤ w.heap.size) :
    Calls Tryz.prog 101 #[.pointer (some ⟨b, 0, none⟩), .string s] w fun e w' => e = .returned (.tuple #[.int .i64 s.size, .nilIface]) ∧ (Lib.BuilderAt 156 5 B b (.pointer (some ⟨b, 0, none⟩)) (bs ++ Lib.strCells s) w' ∧ Below B w w' ∧ Lib.OthersKept 5 (some b) w w') := by
  obtain ⟨i0, hi, hz0, hz1, hz2⟩ := info_parts byte_info
  go_enter Tryz.func101, Tryz.ntmps101
  go_wp2_with fail
  refine (copy_any B b bs _ h).mono ?_
  rintro e w1 ⟨rfl, h1, hb1, ho1⟩
  have HO := Lib.hid ho1
  clear ho1
  obtain ⟨hB, v, hbk, hown, hne⟩ := h1
  have c0 : w1.cell? ⟨b, 0, none⟩ = some (.pointer (some ⟨b, 0, none⟩)) := by rw [Lib.cell_of_heap hbk]; rfl
  have c1 : w1.cell? ⟨b, 1, none⟩ = some v := by rw [Lib.cell_of_heap hbk]; rfl
  go_wp2_with (refine Lib.wpList_append_own_string _ rfl _ _ 131 9 rfl B 5 i0 Tryz.underlying131 Tryz.underlying9 hi hz0 hz1 hz2 _ _ _ rfl hown s rfl ?c3 ?c4 ?c5 ?_)
  case c3 => unfold maxLen; omega
  case c4 => omega
  case c5 => have := hb1.size; omega
  intro v' w2 hown' hgrow _
  have hlt : b < w1.heap.size := by
    rcases Nat.lt_or_ge b w1.heap.size with h' | h'
    · exact h'
    · simp [Array.getElem?_eq_none h'] at hbk
  have hb2 : w2.heap[b]? = some (.cells #[.pointer (some ⟨b, 0, none⟩), v] 156 (0, 0)) := by
    rw [hgrow.block b hlt (fun e => hne e.symm)]
    exact hbk
  have d0 : w2.cell? ⟨b, 0, none⟩ = some (.pointer (some ⟨b, 0, none⟩)) := by rw [Lib.cell_of_heap hb2]; rfl
  have d1 : w2.cell? ⟨b, 1, none⟩ = some v := by rw [Lib.cell_of_heap hb2]; rfl
  have f1 : w2.frozen? ⟨b, 1, none⟩ = false := Lib.frozen_of_heap hb2 1
  obtain ⟨ao, n', cap, rfl⟩ : ∃ ao n' cap, v' = .slice ao n' cap := by
    rcases hown'.2 with ⟨hv, _⟩ | ⟨g, cap, cur, hv, _⟩
    · exact ⟨_, _, _, hv⟩
    · exact ⟨_, _, _, hv⟩
  go_wp2
  go_ret2
  refine ⟨rfl, ?_, ?_, ?_⟩
  · exact Lib.BuilderAt.put (T := 156) (e := 5) hB hb2 (bs' := bs ++ Lib.strCells s) (by simpa [Lib.strCells_length] using hown') (by decide)
  · exact (hb1.grown hgrow (by have := hb1.size; omega) (fun k hk => (hown.lt k hk).1)).setCell (p := ⟨b, 1, none⟩) hB _
  · exact (HO.out.grown hgrow (Lib.ownsRowF_kind (World.ownsRowF_of hown))).setCell ⟨b, 1, none⟩ rfl _
end Go.Proofs.YtjhgiojmlkeccaaGreatDoor
namespace Go.Proofs.YtjhgiojmlkeccaaGreatDoor
open Go.RowKit
theorem flat_take (L : List ByteArray) (i : Nat) (h : i < L.length) : flat (L.take (i + 1)) = flat (L.take i) ++ L[i].data.toList := by
  unfold flat
  rw [List.take_add_one, List.flatMap_append, List.getElem?_eq_getElem h]
  simp
theorem flat_len (L : List ByteArray) (j : Nat) : (flat (L.take j)).length ≤ (flat L).length := by
  have e : flat L = flat (L.take j) ++ flat (L.drop j) := by
    unfold flat
    rw [← List.flatMap_append, List.take_append_drop]
  rw [e, List.length_append]
  omega
set_option maxRecDepth 100000 in
theorem put_true (L : List ByteArray) (sb n : Nat) (fz : Nat × Nat) (hL : L.length = n) (hn : n ≤ 8) (B bd : Nat) (bs : List UInt8) (hbs : bs.length + (flat L).length ≤ 100000000) (w : World)
    (h : Lib.IsBuilder 156 5 B bd (Lib.byteCells bs) w) (hBw : B ≤ w.heap.size) (hne : some sb ≠ some bd)
    (hs : w.heap[sb]? = some (.cells (L.map Value.string).toArray 9 fz)) :
    Calls Tryz.prog 109 #[.bool true, .slice (some ⟨sb, 0, none⟩) n n, .pointer (some ⟨bd, 0, none⟩)] w fun e w' => e = .returned (.tuple #[]) ∧ Lib.IsBuilder 156 5 B bd (Lib.byteCells (bs ++ flat L)) w' ∧ Below B w w' ∧ Lib.OthersKept 5 (some bd) w w' := by
  have HI := Lib.hid h
  have HS := Lib.hid hs
  clear h hs
  go_enter Tryz.func109, Tryz.ntmps109
  go_wp2_with fail
  go_loopg [9] n (fun k u wr => ∃ i : Nat, u = .int .i64 i ∧ k + i = n ∧ Hid (Lib.IsBuilder 156 5 B bd (Lib.byteCells (bs ++ flat (L.take i))) wr) ∧ B ≤ wr.heap.size ∧ Hid (Below B w wr) ∧ Hid (Lib.OthersKept 5 (some bd) w wr))
  case atStart => exact ⟨0, rfl, by omega, Lib.hid (by simpa [flat] using HI.out), hBw, Lib.hid (Below.refl B w), Lib.hid (Lib.OthersKept.refl _ _ _)⟩
  case round =>
    rename World => wo
    obtain ⟨i, rfl, hk, HB, hBo, HW, HO⟩ := hrel
    by_cases hlt : i < n
    · obtain ⟨g, rfl⟩ : ∃ g, gk = g + 1 := ⟨gk - 1, by omega⟩
      have hso := HO.out sb _ HS.out hne (fun c fz e => by injection e with _ e; exact absurd e (by decide))
      obtain ⟨s, hsL⟩ : ∃ s, L[i]'(by omega) = s := ⟨_, rfl⟩
      have hci : wo.cell? ⟨sb, i, none⟩ = some (.string s) := by
        rw [Lib.cell_of_heap hso]
        simp [hsL, List.getElem?_eq_getElem (show i < L.length by omega)]
      clear hso
      have hft := flat_take L i (by omega)
      rw [hsL] at hft
      have hfl := flat_len L (i + 1)
      have hsl : s.data.toList.length = s.size := by rw [Array.length_toList]; rfl
      have hl2 : (Lib.byteCells (bs ++ flat (L.take i))).length + s.size ≤ 140737488355328 := by
        rw [hft, List.length_append, hsl] at hfl
        rw [Lib.byteCells_length, List.length_append]
        omega
      have HF := Lib.hid hft
      clear hft hsL hfl hsl
      go_wp2_with fail
      refine (write_anyQ B bd _ s wo HB.out hl2 hBo).mono ?_
      rintro e w1 ⟨rfl, h1, hb1, ho1⟩
      have HB1 : Hid (Lib.IsBuilder 156 5 B bd (Lib.byteCells (bs ++ flat (L.take (i + 1)))) w1) := Lib.hid (by
        rw [HF.out, ← List.append_assoc]
        have e : Lib.byteCells (bs ++ flat (L.take i) ++ s.data.toList) = Lib.byteCells (bs ++ flat (L.take i)) ++ Lib.strCells s := by
          unfold Lib.byteCells Lib.strCells
          rw [List.map_append]
        rw [e]
        exact Or.inr h1)
      have HW1 := Lib.hid (HW.out.trans hb1)
      have HO1 := Lib.hid (HO.out.trans ho1)
      have hB1 : B ≤ w1.heap.size := Nat.le_trans hBo hb1.size
      clear h1 hb1 ho1
      go_wp2_with fail
      go_roundg g
      case measure => omega
      case rel => exact ⟨i + 1, by go_num, by omega, HB1, hB1, HW1, HO1⟩
    · have hi : i = n := by omega
      subst hi
      have HB1 := HB.out
      rw [List.take_of_length_le (by omega)] at HB1
      have HB2 := Lib.hid HB1
      clear HB1
      go_wp2_with fail
      go_end0
      exact ⟨rfl, HB2.out, HW.out, HO.out⟩
set_option maxRecDepth 100000 in
theorem put_false (L : List ByteArray) (sb n : Nat) (fz : Nat × Nat) (hL : L.length = n) (hn : n ≤ 8) (bd : Nat) (w : World)
    (hs : w.heap[sb]? = some (.cells (L.map Value.string).toArray 9 fz)) :
    Calls Tryz.prog 109 #[.bool false, .slice (some ⟨sb, 0, none⟩) n n, .pointer (some ⟨bd, 0, none⟩)] w fun e w' => e = .returned (.tuple #[]) ∧ w' = w := by
  have HS := Lib.hid hs
  clear hs
  go_enter Tryz.func109, Tryz.ntmps109
  go_wp2_with fail
  go_loopg [9] n (fun k u wr => ∃ i : Nat, u = .int .i64 i ∧ k + i = n ∧ Hid (wr = w))
  case atStart => exact ⟨0, rfl, by omega, Lib.hid rfl⟩
  case round =>
    rename World => wo
    obtain ⟨i, rfl, hk, HW⟩ := hrel
    by_cases hlt : i < n
    · obtain ⟨g, rfl⟩ : ∃ g, gk = g + 1 := ⟨gk - 1, by omega⟩
      obtain ⟨s, hsL⟩ : ∃ s, L[i]'(by omega) = s := ⟨_, rfl⟩
      have hci : wo.cell? ⟨sb, i, none⟩ = some (.string s) := by
        rw [HW.out, Lib.cell_of_heap HS.out]
        simp [hsL, List.getElem?_eq_getElem (show i < L.length by omega)]
      clear hsL
      go_wp2_with fail
      go_roundg g
      case measure => omega
      case rel => exact ⟨i + 1, by go_num, by omega, HW⟩
    · go_wp2_with fail
      go_end0
      exact ⟨rfl, HW.out⟩
theorem bldAt_alloc {T e : TypeId} {B b : Nat} {p : Value} {bs : List Value} {w : World} (h : Lib.BuilderAt T e B b p bs w) (o : Obj) : Lib.BuilderAt T e B b p bs (w.alloc o) := by
  obtain ⟨hB, v, hb, hown, hne⟩ := h
  have hlt : b < w.heap.size := by
    rcases Nat.lt_or_ge b w.heap.size with h' | h'
    · exact h'
    · simp [Array.getElem?_eq_none h'] at hb
  exact ⟨hB, v, (Below.heap_alloc w o b hlt).trans hb, hown.alloc o, hne⟩
theorem bld_alloc {T e : TypeId} {B b : Nat} {bs : List Value} {w : World} (h : Lib.IsBuilder T e B b bs w) (o : Obj) : Lib.IsBuilder T e B b bs (w.alloc o) := by
  rcases h with h | h
  · exact Or.inl (bldAt_alloc h o)
  · exact Or.inr (bldAt_alloc h o)
end Go.Proofs.YtjhgiojmlkeccaaGreatDoor
namespace Go.Proofs.YtjhgiojmlkeccaaGreatDoor
open Go.RowKit
/-- tell's state: the address's cells, the builder's bytes. -/
def TSt (sc us ho po pa qu : ByteArray) (hu hq : Bool) (w W : World) (bs : List UInt8) : Prop :=
  W.heap[w.heap.size]? = some (.cells #[.string sc, .string us, .string ho, .string po, .string pa, .string qu, .bool hu, .bool hq] 101 (0, 0)) ∧ Lib.IsBuilder 156 5 (w.heap.size + 1) (w.heap.size + 1) (Lib.byteCells bs) W ∧ w.heap.size + 2 ≤ W.heap.size ∧ Below w.heap.size w W
theorem tput {sc us ho po pa qu : ByteArray} {hu hq : Bool} {w W : World} {bs : List UInt8} (h : TSt sc us ho po pa qu hu hq w W bs) (b : Bool) (L : List ByteArray) (n m : Nat) (A : Array Value) (hA : A = (L.map Value.string).toArray) (hm : m = W.heap.size) (hL : L.length = n) (hn : n ≤ 8) (hbs : bs.length + (flat L).length ≤ 100000000) :
    Calls Tryz.prog 109 #[.bool b, .slice (some ⟨m, 0, none⟩) n n, .pointer (some ⟨w.heap.size + 1, 0, none⟩)] (W.alloc (.cells A 9)) fun e w' => e = .returned (.tuple #[]) ∧ TSt sc us ho po pa qu hu hq w w' (bs ++ if b then flat L else []) := by
  subst hm hA
  obtain ⟨ha, hb, hz, hw⟩ := h
  have hnew : (W.alloc (.cells (L.map Value.string).toArray 9)).heap[W.heap.size]? = some (.cells (L.map Value.string).toArray 9 (0, 0)) := heap_alloc_new W _
  have hold : (W.alloc (.cells (L.map Value.string).toArray 9)).heap[w.heap.size]? = some (.cells #[.string sc, .string us, .string ho, .string po, .string pa, .string qu, .bool hu, .bool hq] 101 (0, 0)) := (Below.heap_alloc W _ _ (by omega)).trans ha
  have hsz : (W.alloc (.cells (L.map Value.string).toArray 9)).heap.size = W.heap.size + 1 := by simp
  cases b with
  | true =>
    refine (put_true L W.heap.size n (0, 0) hL hn (w.heap.size + 1) (w.heap.size + 1) bs hbs _ (bld_alloc hb _) (by omega) (by intro e; injection e; omega) hnew).mono ?_
    rintro e w' ⟨rfl, hb', hbw, ho⟩
    exact ⟨rfl, (hbw.block _ (by omega)).trans hold, hb', by have := hbw.size; omega, (hw.alloc (by omega) _).trans (hbw.mono (by omega))⟩
  | false =>
    refine (put_false L W.heap.size n (0, 0) hL hn (w.heap.size + 1) _ hnew).mono ?_
    rintro e w' ⟨rfl, rfl⟩
    exact ⟨rfl, hold, by simpa using bld_alloc hb _, by omega, hw.alloc (by omega) _⟩
theorem tcells {sc us ho po pa qu : ByteArray} {hu hq : Bool} {w W : World} {bs : List UInt8} (h : TSt sc us ho po pa qu hu hq w W bs) :
    W.cell? ⟨w.heap.size, 0, none⟩ = some (.string sc) ∧ W.cell? ⟨w.heap.size, 1, none⟩ = some (.string us) ∧ W.cell? ⟨w.heap.size, 2, none⟩ = some (.string ho) ∧ W.cell? ⟨w.heap.size, 3, none⟩ = some (.string po) ∧ W.cell? ⟨w.heap.size, 4, none⟩ = some (.string pa) ∧ W.cell? ⟨w.heap.size, 5, none⟩ = some (.string qu) ∧ W.cell? ⟨w.heap.size, 6, none⟩ = some (.bool hu) ∧ W.cell? ⟨w.heap.size, 7, none⟩ = some (.bool hq) := by
  have := h.1
  refine ⟨?_, ?_, ?_, ?_, ?_, ?_, ?_, ?_⟩ <;> (rw [Lib.cell_of_heap this]; rfl)
theorem tstart (sc us ho po pa qu : ByteArray) (hu hq : Bool) (w : World) :
    TSt sc us ho po pa qu hu hq w ((w.alloc (.cells #[.string sc, .string us, .string ho, .string po, .string pa, .string qu, .bool hu, .bool hq] 101)).alloc (.cells #[.pointer none, .slice none 0 0] 156)) [] := by
  refine ⟨?_, ?_, by simp, ?_⟩
  · rw [Below.heap_alloc _ _ _ (by simp)]
    exact heap_alloc_new w _
  · have := Lib.fresh_isBuilder 156 5 (w.alloc (.cells #[.string sc, .string us, .string ho, .string po, .string pa, .string qu, .bool hu, .bool hq] 101))
    simpa [Lib.byteCells] using this
  · exact ((Below.refl _ _).alloc (Nat.le_refl _) _).alloc (by simp) _
theorem ret_str {l m : List UInt8} (h : l = m) : Ending.returned (.string ⟨l.toArray⟩) = .returned (.string ⟨m.toArray⟩) := by rw [h]
theorem flat1 (a : ByteArray) : flat [a] = a.data.toList := by simp [flat]
theorem flat2 (a b : ByteArray) : flat [a, b] = a.data.toList ++ b.data.toList := by simp [flat]
theorem len_size (a : ByteArray) : a.data.toList.length = a.size := by rw [Array.length_toList]; rfl
/-- What tell has written, call by call. -/
theorem tell_parts (sc us ho po pa qu : List UInt8) (hu hq bp : Bool) (hb : bp = !po.isEmpty) :
    [] ++ (sc ++ [58, 47, 47]) ++ (if hu then us ++ [64] else []) ++ ho ++ (if bp then [58] ++ po else []) ++ pa ++ (if hq then [63] ++ qu else []) = tellL sc us ho po pa qu hu hq := by
  subst hb
  unfold tellL
  cases po <;> simp
set_option maxRecDepth 100000 in
set_option maxHeartbeats 2000000 in
theorem tell_any (sc us ho po pa qu : ByteArray) (hu hq : Bool) (h1 : sc.size ≤ 100000) (h2 : us.size ≤ 100000) (h3 : ho.size ≤ 100000) (h4 : po.size ≤ 100000) (h5 : pa.size ≤ 100000) (h6 : qu.size ≤ 100000) (w : World) :
    Calls Tryz.prog 63 #[.agg #[.string sc, .string us, .string ho, .string po, .string pa, .string qu, .bool hu, .bool hq]] w fun e w' => e = .returned (.string ⟨(tellL sc.data.toList us.data.toList ho.data.toList po.data.toList pa.data.toList qu.data.toList hu hq).toArray⟩) ∧ Below w.heap.size w w' := by
  have e1 := len_size sc
  have e2 := len_size us
  have e3 := len_size ho
  have e4 := len_size po
  have e5 := len_size pa
  have e6 := len_size qu
  obtain ⟨bp, hbp, hpe⟩ : ∃ bp : Bool, bp = (!po.data.toList.isEmpty) ∧ ((po.toList.isEmpty = false ∧ bp = true ∧ ¬ po.toList = []) ∨ (po.toList.isEmpty = true ∧ bp = false ∧ po.toList = [])) := by
    refine ⟨_, rfl, ?_⟩
    rcases empty_iff po with ⟨_, a, b, c⟩ | ⟨_, a, b, c⟩
    · left; exact ⟨b, by rw [c]; rfl, a⟩
    · right; exact ⟨b, by rw [c]; rfl, a⟩
  have HB := Lib.hid hbp
  have E1 := Lib.hid e1
  have E2 := Lib.hid e2
  have E3 := Lib.hid e3
  have E4 := Lib.hid e4
  have E5 := Lib.hid e5
  have E6 := Lib.hid e6
  have T0 := Lib.hid (tstart sc us ho po pa qu hu hq w)
  clear e1 e2 e3 e4 e5 e6 hbp
  have BND1 : Hid ((([] : List UInt8)).length + (flat [sc, ⟨#[58, 47, 47]⟩]).length ≤ 100000000) := Lib.hid (by
    have q1 := E1.out
    have q2 := E2.out
    have q3 := E3.out
    have q4 := E4.out
    have q5 := E5.out
    have q6 := E6.out
    simp only [flat1, flat2, List.length_append, List.length_nil, apply_ite List.length]
    simp only [List.length_cons, List.length_nil]
    repeat' split
    all_goals omega)
  have BND2 : Hid (((([] : List UInt8) ++ (if (true : Bool) = true then flat [sc, ⟨#[58, 47, 47]⟩] else []))).length + (flat [us, ⟨#[64]⟩]).length ≤ 100000000) := Lib.hid (by
    have q1 := E1.out
    have q2 := E2.out
    have q3 := E3.out
    have q4 := E4.out
    have q5 := E5.out
    have q6 := E6.out
    simp only [flat1, flat2, List.length_append, List.length_nil, apply_ite List.length]
    simp only [List.length_cons, List.length_nil]
    repeat' split
    all_goals omega)
  have BND3 : Hid ((((([] : List UInt8) ++ (if (true : Bool) = true then flat [sc, ⟨#[58, 47, 47]⟩] else [])) ++ (if hu = true then flat [us, ⟨#[64]⟩] else []))).length + (flat [ho]).length ≤ 100000000) := Lib.hid (by
    have q1 := E1.out
    have q2 := E2.out
    have q3 := E3.out
    have q4 := E4.out
    have q5 := E5.out
    have q6 := E6.out
    simp only [flat1, flat2, List.length_append, List.length_nil, apply_ite List.length]
    simp only [List.length_cons, List.length_nil]
    repeat' split
    all_goals omega)
  have BND4 : Hid (((((([] : List UInt8) ++ (if (true : Bool) = true then flat [sc, ⟨#[58, 47, 47]⟩] else [])) ++ (if hu = true then flat [us, ⟨#[64]⟩] else [])) ++ (if (true : Bool) = true then flat [ho] else []))).length + (flat [⟨#[58]⟩, po]).length ≤ 100000000) := Lib.hid (by
    have q1 := E1.out
    have q2 := E2.out
    have q3 := E3.out
    have q4 := E4.out
    have q5 := E5.out
    have q6 := E6.out
    simp only [flat1, flat2, List.length_append, List.length_nil, apply_ite List.length]
    simp only [List.length_cons, List.length_nil]
    repeat' split
    all_goals omega)
  have BND5 : Hid ((((((([] : List UInt8) ++ (if (true : Bool) = true then flat [sc, ⟨#[58, 47, 47]⟩] else [])) ++ (if hu = true then flat [us, ⟨#[64]⟩] else [])) ++ (if (true : Bool) = true then flat [ho] else [])) ++ (if bp = true then flat [⟨#[58]⟩, po] else []))).length + (flat [pa]).length ≤ 100000000) := Lib.hid (by
    have q1 := E1.out
    have q2 := E2.out
    have q3 := E3.out
    have q4 := E4.out
    have q5 := E5.out
    have q6 := E6.out
    simp only [flat1, flat2, List.length_append, List.length_nil, apply_ite List.length]
    simp only [List.length_cons, List.length_nil]
    repeat' split
    all_goals omega)
  have BND6 : Hid (((((((([] : List UInt8) ++ (if (true : Bool) = true then flat [sc, ⟨#[58, 47, 47]⟩] else [])) ++ (if hu = true then flat [us, ⟨#[64]⟩] else [])) ++ (if (true : Bool) = true then flat [ho] else [])) ++ (if bp = true then flat [⟨#[58]⟩, po] else [])) ++ (if (true : Bool) = true then flat [pa] else []))).length + (flat [⟨#[63]⟩, qu]).length ≤ 100000000) := Lib.hid (by
    have q1 := E1.out
    have q2 := E2.out
    have q3 := E3.out
    have q4 := E4.out
    have q5 := E5.out
    have q6 := E6.out
    simp only [flat1, flat2, List.length_append, List.length_nil, apply_ite List.length]
    simp only [List.length_cons, List.length_nil]
    repeat' split
    all_goals omega)
  rcases hpe with ⟨k1, rfl, k3⟩ | ⟨k1, rfl, k3⟩
  all_goals
    go_enter Tryz.func63, Tryz.ntmps63
    go_wp2_with fail
    refine (tput T0.out true [sc, ⟨#[58, 47, 47]⟩] 2 _ #[.string sc, .string ⟨#[58, 47, 47]⟩] rfl (by simp) rfl (by omega) BND1.out).mono ?_
    rintro e w1 ⟨rfl, t1⟩
    obtain ⟨c0, c1, c2, c3, c4, c5, c6, c7⟩ := tcells t1
    have hz1 := t1.2.2.1
    have T1 := Lib.hid t1
    clear t1
    go_wp2_with fail
    refine (tput T1.out hu [us, ⟨#[64]⟩] 2 _ #[.string us, .string ⟨#[64]⟩] rfl (by simp) rfl (by omega) BND2.out).mono ?_
    rintro e w2 ⟨rfl, t2⟩
    clear c0 c1 c2 c3 c4 c5 c6 c7 hz1
    obtain ⟨c0, c1, c2, c3, c4, c5, c6, c7⟩ := tcells t2
    have hz2 := t2.2.2.1
    have T2 := Lib.hid t2
    clear t2
    go_wp2_with fail
    refine (tput T2.out true [ho] 1 _ #[.string ho] rfl (by simp) rfl (by omega) BND3.out).mono ?_
    rintro e w3 ⟨rfl, t3⟩
    clear c0 c1 c2 c3 c4 c5 c6 c7 hz2
    obtain ⟨c0, c1, c2, c3, c4, c5, c6, c7⟩ := tcells t3
    have hz3 := t3.2.2.1
    have T3 := Lib.hid t3
    clear t3
    go_wp2_with fail
    refine (tput T3.out _ [⟨#[58]⟩, po] 2 _ #[.string ⟨#[58]⟩, .string po] rfl (by simp) rfl (by omega) BND4.out).mono ?_
    rintro e w4 ⟨rfl, t4⟩
    clear c0 c1 c2 c3 c4 c5 c6 c7 hz3
    obtain ⟨c0, c1, c2, c3, c4, c5, c6, c7⟩ := tcells t4
    have hz4 := t4.2.2.1
    have T4 := Lib.hid t4
    clear t4
    go_wp2_with fail
    refine (tput T4.out true [pa] 1 _ #[.string pa] rfl (by simp) rfl (by omega) BND5.out).mono ?_
    rintro e w5 ⟨rfl, t5⟩
    clear c0 c1 c2 c3 c4 c5 c6 c7 hz4
    obtain ⟨c0, c1, c2, c3, c4, c5, c6, c7⟩ := tcells t5
    have hz5 := t5.2.2.1
    have T5 := Lib.hid t5
    clear t5
    go_wp2_with fail
    refine (tput T5.out hq [⟨#[63]⟩, qu] 2 _ #[.string ⟨#[63]⟩, .string qu] rfl (by simp) rfl (by omega) BND6.out).mono ?_
    rintro e w6 ⟨rfl, t6⟩
    clear c0 c1 c2 c3 c4 c5 c6 c7 hz5
    obtain ⟨c0, c1, c2, c3, c4, c5, c6, c7⟩ := tcells t6
    have hz6 := t6.2.2.1
    have T6 := Lib.hid t6
    clear t6
    go_wp2_with fail
    refine (Tryz.Builder_String_any _ _ _ _ T6.out.2.1 (by omega)).mono ?_
    rintro e w7 ⟨rfl, hb7⟩
    have hfin : Below w.heap.size w w7 := T6.out.2.2.2.trans (hb7.mono (by omega))
    clear c0 c1 c2 c3 c4 c5 c6 c7
    go_wp2_with fail
    all_goals
      go_ret
      refine ⟨ret_str ?_, hfin⟩
      refine Eq.trans ?_ (tell_parts _ _ _ _ _ _ _ _ _ HB.out)
      simp [flat1, flat2]
end Go.Proofs.YtjhgiojmlkeccaaGreatDoor
namespace Go.Proofs.YtjhgiojmlkeccaaGreatDoor
open Go.RowKit
theorem ret_u {a c : Int} (h : a = c) : Ending.returned (.tuple #[.int .u64 a, .nilIface]) = .returned (.tuple #[.int .u64 c, .nilIface]) := by rw [h]
def lowI (c : UInt8) : Int := bits BinOp.or IntKind.u8 (c.toNat : Int) 32
theorem low_any (c : UInt8) (w : World) :
    Calls Tryz.prog 201 #[.int .u8 (c.toNat : Int)] w fun e w' => e = .returned (.int .u8 (lowI c)) ∧ w = w' := by
  go_enter Tryz.func201, Tryz.ntmps201
  go_wp2_with fail
  go_ret
  exact ⟨rfl, rfl⟩
theorem low_hex (c : UInt8) (h : isHex c = true) : (48 ≤ (c.toNat : Int) ∧ (c.toNat : Int) ≤ 57 ∧ hexI c.toNat = (c.toNat : Int) - 48) ∨ (57 < (c.toNat : Int) ∧ (c.toNat : Int) ≤ 255 ∧ ¬ (c.toNat : Int) = 95 ∧ 97 ≤ lowI c ∧ lowI c ≤ 102 ∧ hexI c.toNat = lowI c - 87) := by
  have g : (!isHex c || (decide (48 ≤ (c.toNat : Int)) && decide ((c.toNat : Int) ≤ 57) && decide (hexI c.toNat = (c.toNat : Int) - 48)) || (decide (57 < (c.toNat : Int)) && decide ((c.toNat : Int) ≤ 255) && decide (¬ (c.toNat : Int) = 95) && decide (97 ≤ lowI c) && decide (lowI c ≤ 102) && decide (hexI c.toNat = lowI c - 87))) = true := by
    refine all_bytes (f := fun c => (!isHex c || (decide (48 ≤ (c.toNat : Int)) && decide ((c.toNat : Int) ≤ 57) && decide (hexI c.toNat = (c.toNat : Int) - 48)) || (decide (57 < (c.toNat : Int)) && decide ((c.toNat : Int) ≤ 255) && decide (¬ (c.toNat : Int) = 95) && decide (97 ≤ lowI c) && decide (lowI c ≤ 102) && decide (hexI c.toNat = lowI c - 87)))) (g := fun _ => true) ?_ c
    decide +kernel
  rw [h] at g
  simp only [Bool.not_true, Bool.false_or, Bool.or_eq_true, Bool.and_eq_true, decide_eq_true_eq] at g
  rcases g with ⟨⟨a, b⟩, c⟩ | ⟨⟨⟨⟨⟨a, b⟩, f⟩, c⟩, d⟩, e⟩
  · exact Or.inl ⟨a, b, c⟩
  · exact Or.inr ⟨a, b, f, c, d, e⟩
set_option maxRecDepth 100000 in
set_option maxHeartbeats 2000000 in
theorem parse2_any (a b : UInt8) (ha : isHex a = true) (hb : isHex b = true) (s : ByteArray) (hs : s = ⟨#[a, b]⟩) (w : World) :
    Calls Tryz.prog 172 #[.string s, .int .i64 16, .int .i64 8] w fun e w' => e = .returned (.tuple #[.int .u64 (16 * hexI a.toNat + hexI b.toNat), .nilIface]) ∧ Below w.heap.size w w' := by
  have g1 := low_hex a ha
  have g2 := low_hex b hb
  have H1 := Lib.hid (fun w => low_any a w)
  have H2 := Lib.hid (fun w => low_any b w)
  have hsz : s.size = 2 := by rw [hs]; rfl
  have hne : s.toList.isEmpty = false := by rw [hs, ByteArray.toList_eq]; rfl
  have hne2 : ¬ s.toList = [] := by rw [hs, ByteArray.toList_eq]; simp
  have kc := run_bytes_of_string (P := Tryz.prog) w 9 131 5 s Tryz.underlying9 Tryz.underlying131 Tryz.underlying5
  have hs0 : s[0]'(by omega) = a := by subst hs; rfl
  have hs1 : s[1]'(by omega) = b := by subst hs; rfl
  clear hs
  generalize lowI a = la at *
  generalize lowI b = lb at *
  clear ha hb
  obtain ⟨va, hva⟩ : ∃ v, hexI a.toNat = v := ⟨_, rfl⟩
  obtain ⟨vb, hvb⟩ : ∃ v, hexI b.toNat = v := ⟨_, rfl⟩
  rw [hva] at g1
  rw [hvb] at g2
  rw [hva, hvb]
  clear hva hvb
  have hW : ∃ W : World, W = (w.alloc (Obj.cells (bytesRow s (grownCap w 2 0 5)) 5 ((bytesRow s (grownCap w 2 0 5)).size, (bytesRow s (grownCap w 2 0 5)).size + 1))).drew ∧ W.cell? ⟨w.heap.size, 0, none⟩ = some (.int .u8 a.toNat) ∧ W.cell? ⟨w.heap.size, 1, none⟩ = some (.int .u8 b.toNat) ∧ Below w.heap.size w W := by
    refine ⟨_, rfl, ?_, ?_, ?_⟩
    · change (w.alloc _).cell? _ = _
      rw [World.cell?_alloc_mark, ← hs0]
      exact bytesRow_at s _ 0 (show _ < s.size by rw [hsz]; decide)
    · change (w.alloc _).cell? _ = _
      rw [World.cell?_alloc_mark, ← hs1]
      exact bytesRow_at s _ 1 (show _ < s.size by rw [hsz]; decide)
    · exact ((Below.refl _ _).alloc (Nat.le_refl _) _).drew
  clear hs0 hs1
  go_enter Tryz.func172, Tryz.ntmps172
  go_wp2_with fail
  obtain ⟨W, hWe, k0, k1, hbw⟩ := hW
  rw [← hWe]
  clear hWe kc
  generalize (a.toNat : Int) = na at *
  generalize (b.toNat : Int) = nb at *
  rcases g1 with ⟨a1, a2, a3⟩ | ⟨a1, a2, a6, a3, a4, a5⟩ <;> rcases g2 with ⟨b1, b2, b3⟩ | ⟨b1, b2, b6, b3, b4, b5⟩
  · subst a3 b3
    refine wp_loop_rounds 3 ?_
    rw [rounds_succ]
    go_wp2_with fail
    rw [rounds_succ]
    go_wp2_with fail
    rw [rounds_succ]
    go_wp2_with fail
    go_ret2
    exact ⟨ret_u (by omega), hbw⟩
  · subst a3 b5
    refine wp_loop_rounds 3 ?_
    rw [rounds_succ]
    go_wp2_with fail
    rw [rounds_succ]
    go_wp2_with fail
    refine (H2.out _).mono ?_; rintro e w1 ⟨rfl, rfl⟩
    go_wp2_with fail
    refine (H2.out _).mono ?_; rintro e w1 ⟨rfl, rfl⟩
    go_wp2_with fail
    refine (H2.out _).mono ?_; rintro e w1 ⟨rfl, rfl⟩
    go_wp2_with fail
    rw [rounds_succ]
    go_wp2_with fail
    go_ret2
    exact ⟨ret_u (by omega), hbw⟩
  · subst a5 b3
    refine wp_loop_rounds 3 ?_
    rw [rounds_succ]
    go_wp2_with fail
    refine (H1.out _).mono ?_; rintro e w1 ⟨rfl, rfl⟩
    go_wp2_with fail
    refine (H1.out _).mono ?_; rintro e w1 ⟨rfl, rfl⟩
    go_wp2_with fail
    refine (H1.out _).mono ?_; rintro e w1 ⟨rfl, rfl⟩
    go_wp2_with fail
    rw [rounds_succ]
    go_wp2_with fail
    rw [rounds_succ]
    go_wp2_with fail
    go_ret2
    exact ⟨ret_u (by omega), hbw⟩
  · subst a5 b5
    refine wp_loop_rounds 3 ?_
    rw [rounds_succ]
    go_wp2_with fail
    refine (H1.out _).mono ?_; rintro e w1 ⟨rfl, rfl⟩
    go_wp2_with fail
    refine (H1.out _).mono ?_; rintro e w1 ⟨rfl, rfl⟩
    go_wp2_with fail
    refine (H1.out _).mono ?_; rintro e w1 ⟨rfl, rfl⟩
    go_wp2_with fail
    rw [rounds_succ]
    go_wp2_with fail
    refine (H2.out _).mono ?_; rintro e w1 ⟨rfl, rfl⟩
    go_wp2_with fail
    refine (H2.out _).mono ?_; rintro e w1 ⟨rfl, rfl⟩
    go_wp2_with fail
    refine (H2.out _).mono ?_; rintro e w1 ⟨rfl, rfl⟩
    go_wp2_with fail
    rw [rounds_succ]
    go_wp2_with fail
    go_ret2
    exact ⟨ret_u (by omega), hbw⟩
end Go.Proofs.YtjhgiojmlkeccaaGreatDoor
namespace Go.Proofs.YtjhgiojmlkeccaaGreatDoor
open Go.RowKit
theorem sparse2_any (a b : UInt8) (ha : isHex a = true) (hb : isHex b = true) (w : World) :
    Calls Tryz.prog 131 #[.string ⟨#[a, b]⟩, .int .i64 16, .int .i64 8] w fun e w' => e = .returned (.tuple #[.int .u64 (16 * hexI a.toNat + hexI b.toNat), .nilIface]) ∧ Below w.heap.size w w' := by
  have H := Lib.hid (fun w => parse2_any a b ha hb ⟨#[a, b]⟩ rfl w)
  clear ha hb
  generalize 16 * hexI a.toNat + hexI b.toNat = n at *
  generalize (⟨#[a, b]⟩ : ByteArray) = s at *
  go_enter Tryz.func131, Tryz.ntmps131
  go_wp2_with fail
  refine (H.out _).mono ?_; rintro e w1 ⟨rfl, hb⟩
  go_wp2_with fail
  go_ret2
  exact ⟨rfl, hb⟩
def hexSet : List UInt8 := [48, 49, 50, 51, 52, 53, 54, 55, 56, 57, 97, 98, 99, 100, 101, 102, 65, 66, 67, 68, 69, 70]
theorem hexSet_iff (c : UInt8) : hexSet.contains c = isHex c := by
  refine all_bytes (f := fun c => hexSet.contains c) (g := isHex) ?_ c
  decide +kernel
theorem trimhex_any (s : ByteArray) (hs : s.size ≤ 1000000) (w : World) :
    Calls Tryz.prog 88 #[.string s, .string ⟨#[48, 49, 50, 51, 52, 53, 54, 55, 56, 57, 97, 98, 99, 100, 101, 102, 65, 66, 67, 68, 69, 70]⟩] w fun e w' => e = .returned (.string ⟨(Lib.trimS s.data.toList hexSet).toArray⟩) ∧ Below w.heap.size w w' :=
  Any.strings_Trim_laid Tryz.lays160 (by kernel_rfl) s ⟨#[48, 49, 50, 51, 52, 53, 54, 55, 56, 57, 97, 98, 99, 100, 101, 102, 65, 66, 67, 68, 69, 70]⟩ w (by omega) (by decide) (ascii_of_all (by decide))
theorem trimhex_nil (l : List UInt8) : Lib.trimS l hexSet = [] ↔ l.all isHex = true := by
  rw [trimS_nil, show (hexSet.contains ·) = isHex from funext hexSet_iff]
theorem sub2 (s : ByteArray) (h : 2 < s.size) : s.extract 1 3 = ⟨#[s[1], s[2]]⟩ := by
  apply ByteArray.ext
  apply Array.ext'
  rw [ByteArray.data_extract, Array.toList_extract, List.extract_eq_take_drop]
  have hl : s.data.toList.length = s.size := len_size s
  rw [List.drop_eq_getElem_cons (by omega), List.drop_eq_getElem_cons (by omega)]
  rfl
set_option maxRecDepth 100000 in
set_option maxHeartbeats 2000000 in
theorem byteOf_yes (s : ByteArray) (hs : s.size ≤ 1000000) (h3 : 2 < s.size) (he : esc s.data.toList = true) (w : World) :
    Calls Tryz.prog 100 #[.string s] w fun e w' => e = .returned (.tuple #[.int .u8 (16 * hexI s[1].toNat + hexI s[2].toNat), .bool true]) ∧ Below w.heap.size w w' := by
  have e0 := esc_at s 0 h3
  rw [List.drop_zero, he] at e0
  have e1 := sub2 s h3
  have hq : ((s[0].toNat : Int) == 37) = true := by
    cases q : ((s[0].toNat : Int) == 37)
    · rw [q] at e0; simp at e0
    · rfl
  rw [hq] at e0
  simp only [Bool.true_and, Nat.zero_add] at e0
  have ha : isHex s[1] = true := by
    cases q : isHex s[1]
    · rw [q] at e0; simp at e0
    · rfl
  have hb : isHex s[2] = true := by
    cases q : isHex s[2]
    · rw [q] at e0; simp at e0
    · rfl
  have HT : Hid (∀ w, Calls Tryz.prog 88 #[.string (s.extract 1 3), .string ⟨#[48, 49, 50, 51, 52, 53, 54, 55, 56, 57, 97, 98, 99, 100, 101, 102, 65, 66, 67, 68, 69, 70]⟩] w fun e w' => e = .returned (.string ⟨#[]⟩) ∧ Below w.heap.size w w') := Lib.hid (fun w => by
    have := trimhex_any (s.extract 1 3) (by rw [ByteArray.size_extract]; omega) w
    rw [(trimhex_nil _).2 (by rw [e1]; simp [ha, hb])] at this
    exact this)
  have HP := Lib.hid (fun w => sparse2_any s[1] s[2] ha hb w)
  rw [← e1] at HP
  have hv : 0 ≤ 16 * hexI s[1].toNat + hexI s[2].toNat ∧ 16 * hexI s[1].toNat + hexI s[2].toNat ≤ 255 := by
    have q1 := hexI_hex s[1]
    have q2 := hexI_hex s[2]
    rw [ha] at q1
    rw [hb] at q2
    simp at q1 q2
    omega
  obtain ⟨v1, v2⟩ := hv
  clear e0 e1 he ha hb
  have hq : (s[0].toNat : Int) = 37 := by simpa using hq
  generalize 16 * hexI s[1].toNat + hexI s[2].toNat = n at *
  go_enter Tryz.func100, Tryz.ntmps100
  go_wp2_with fail
  refine (HT.out _).mono ?_; rintro e w1 ⟨rfl, hb1⟩
  go_wp2_with fail
  refine (HP.out _).mono ?_; rintro e w2 ⟨rfl, hb2⟩
  go_wp2_with fail
  go_ret2
  exact ⟨rfl, hb1.trans (hb2.mono hb1.size)⟩
set_option maxRecDepth 100000 in
set_option maxHeartbeats 2000000 in
theorem byteOf_no (s : ByteArray) (hs : s.size ≤ 1000000) (he : esc s.data.toList = false) (w : World) :
    Calls Tryz.prog 100 #[.string s] w fun e w' => e = .returned (.tuple #[.int .u8 0, .bool false]) ∧ Below w.heap.size w w' := by
  by_cases h3 : 2 < s.size
  · have e0 := esc_at s 0 h3
    rw [List.drop_zero, he] at e0
    have e1 := sub2 s h3
    cases hq : ((s[0].toNat : Int) == 37)
    · clear e0 e1 he
      have hq : ¬ (s[0].toNat : Int) = 37 := by simpa using hq
      go_enter Tryz.func100, Tryz.ntmps100
      go_wp2_with fail
      go_ret2
      exact ⟨rfl, Below.refl _ _⟩
    · rw [hq] at e0
      simp only [Bool.true_and, Nat.zero_add] at e0
      obtain ⟨t, ht⟩ : ∃ t : ByteArray, (⟨(Lib.trimS (s.extract 1 3).data.toList hexSet).toArray⟩ : ByteArray) = t := ⟨_, rfl⟩
      have hne : ¬ t.toList = [] := by
        rw [← ht, ByteArray.toList_eq]
        intro q
        have := (trimhex_nil _).1 q
        rw [e1] at this
        simp only [List.all_cons, List.all_nil, Bool.and_true] at this
        rw [this] at e0
        cases e0
      have hne2 : t.toList.isEmpty = false := by
        cases q : t.toList
        · exact absurd q hne
        · rfl
      have HT := Lib.hid (fun w => trimhex_any (s.extract 1 3) (by rw [ByteArray.size_extract]; omega) w)
      rw [ht] at HT
      clear e0 e1 he ht
      have hq : (s[0].toNat : Int) = 37 := by simpa using hq
      go_enter Tryz.func100, Tryz.ntmps100
      go_wp2_with fail
      refine (HT.out _).mono ?_; rintro e w1 ⟨rfl, hb1⟩
      go_wp2_with fail
      go_ret2
      exact ⟨rfl, hb1⟩
  · clear he
    go_enter Tryz.func100, Tryz.ntmps100
    go_wp2_with fail
    go_ret2
    exact ⟨rfl, Below.refl _ _⟩
theorem byteOf_is : Hid (∀ (s : ByteArray) (w : World), s.size ≤ 1000000 → Calls Tryz.prog 100 #[.string s] w fun e w' => (∃ n : Int, e = .returned (.tuple #[.int .u8 n, .bool (esc s.data.toList)])) ∧ Below w.heap.size w w') := Lib.hid (by
  intro s w hs
  cases he : esc s.data.toList with
  | true =>
    have h3 : 2 < s.size := by
      by_cases q : 2 < s.size
      · exact q
      · have := esc_far s 0 q
        rw [List.drop_zero, he] at this
        cases this
    exact (byteOf_yes s hs h3 he w).mono fun e w' ⟨h1, h2⟩ => ⟨⟨_, h1⟩, h2⟩
  | false => exact (byteOf_no s hs he w).mono fun e w' ⟨h1, h2⟩ => ⟨⟨_, h1⟩, h2⟩)
end Go.Proofs.YtjhgiojmlkeccaaGreatDoor
namespace Go.Proofs.YtjhgiojmlkeccaaGreatDoor
open Go.RowKit
theorem set_letters : ∃ A : Value, A = (.agg #[.int .u64 ((0 : Nat) : Int), .int .u64 ((576460743847706622 : Nat) : Int), .int .u64 ((0 : Nat) : Int), .int .u64 ((0 : Nat) : Int)]) ∧
    Hid (∀ (V : World) (b : Nat), V.cell? ⟨b, 0, none⟩ = some (.string ⟨#[97, 98, 99, 100, 101, 102, 103, 104, 105, 106, 107, 108, 109, 110, 111, 112, 113, 114, 115, 116, 117, 118, 119, 120, 121, 122]⟩) → V.cell? ⟨b, 1, none⟩ = some (.string ⟨#[65, 66, 67, 68, 69, 70, 71, 72, 73, 74, 75, 76, 77, 78, 79, 80, 81, 82, 83, 84, 85, 86, 87, 88, 89, 90]⟩) → b < V.heap.size → Calls Tryz.prog 99 #[.slice (some ⟨b, 0, none⟩) 2 2] V fun e w' => e = .returned A ∧ Below V.heap.size V w') ∧
    Hid (∀ (V : World) (c : UInt8), Calls Tryz.prog 102 #[A, .int .u8 (c.toNat : Int)] V fun e w' => e = .returned (.bool (isLet c)) ∧ Below V.heap.size V w') ∧
    Hid (∀ (V : World) (s : ByteArray), s.size ≤ 1000000 → Calls Tryz.prog 147 #[.string s, A] V fun e w' => e = .returned (.bool (madeB isLet s.data.toList)) ∧ Below V.heap.size V w') := by
  refine ⟨(.agg #[.int .u64 ((0 : Nat) : Int), .int .u64 ((576460743847706622 : Nat) : Int), .int .u64 ((0 : Nat) : Int), .int .u64 ((0 : Nat) : Int)]), rfl, Lib.hid ?_, Lib.hid ?_, Lib.hid ?_⟩
  · intro V b c0 c1 hb
    refine of_any [⟨#[97, 98, 99, 100, 101, 102, 103, 104, 105, 106, 107, 108, 109, 110, 111, 112, 113, 114, 115, 116, 117, 118, 119, 120, 121, 122]⟩, ⟨#[65, 66, 67, 68, 69, 70, 71, 72, 73, 74, 75, 76, 77, 78, 79, 80, 81, 82, 83, 84, 85, 86, 87, 88, 89, 90]⟩] b 2 rfl (by decide) (by intro s h; simp only [List.mem_cons, List.not_mem_nil, or_false] at h; rcases h with rfl | rfl <;> decide) V ?_ hb 0 576460743847706622 0 0 (Lib.hid fold_letters)
    intro i h
    match i, h with
    | 0, _ => exact c0
    | 1, _ => exact c1
    | j + 2, h => exact absurd h (by simp)
  · intro V c
    rw [← has_letters c]
    exact has_any 0 576460743847706622 0 0 (by decide) (by decide) (by decide) (by decide) c.toNat (UInt8.toNat_lt c) V
  · intro V s hs
    exact made_anyQ byteOf_is s hs 0 576460743847706622 0 0 (by decide) (by decide) (by decide) (by decide) isLet (Lib.hid has_letters) V
theorem set_scheme : ∃ A : Value, A = (.agg #[.int .u64 ((288063250384289792 : Nat) : Int), .int .u64 ((576460743847706622 : Nat) : Int), .int .u64 ((0 : Nat) : Int), .int .u64 ((0 : Nat) : Int)]) ∧
    Hid (∀ (V : World) (b : Nat), V.cell? ⟨b, 0, none⟩ = some (.string ⟨#[97, 98, 99, 100, 101, 102, 103, 104, 105, 106, 107, 108, 109, 110, 111, 112, 113, 114, 115, 116, 117, 118, 119, 120, 121, 122]⟩) → V.cell? ⟨b, 1, none⟩ = some (.string ⟨#[65, 66, 67, 68, 69, 70, 71, 72, 73, 74, 75, 76, 77, 78, 79, 80, 81, 82, 83, 84, 85, 86, 87, 88, 89, 90]⟩) → V.cell? ⟨b, 2, none⟩ = some (.string ⟨#[48, 49, 50, 51, 52, 53, 54, 55, 56, 57]⟩) → V.cell? ⟨b, 3, none⟩ = some (.string ⟨#[43, 45, 46]⟩) → b < V.heap.size → Calls Tryz.prog 99 #[.slice (some ⟨b, 0, none⟩) 4 4] V fun e w' => e = .returned A ∧ Below V.heap.size V w') ∧
    Hid (∀ (V : World) (c : UInt8), Calls Tryz.prog 102 #[A, .int .u8 (c.toNat : Int)] V fun e w' => e = .returned (.bool (okS c)) ∧ Below V.heap.size V w') ∧
    Hid (∀ (V : World) (s : ByteArray), s.size ≤ 1000000 → Calls Tryz.prog 147 #[.string s, A] V fun e w' => e = .returned (.bool (madeB okS s.data.toList)) ∧ Below V.heap.size V w') := by
  refine ⟨(.agg #[.int .u64 ((288063250384289792 : Nat) : Int), .int .u64 ((576460743847706622 : Nat) : Int), .int .u64 ((0 : Nat) : Int), .int .u64 ((0 : Nat) : Int)]), rfl, Lib.hid ?_, Lib.hid ?_, Lib.hid ?_⟩
  · intro V b c0 c1 c2 c3 hb
    refine of_any [⟨#[97, 98, 99, 100, 101, 102, 103, 104, 105, 106, 107, 108, 109, 110, 111, 112, 113, 114, 115, 116, 117, 118, 119, 120, 121, 122]⟩, ⟨#[65, 66, 67, 68, 69, 70, 71, 72, 73, 74, 75, 76, 77, 78, 79, 80, 81, 82, 83, 84, 85, 86, 87, 88, 89, 90]⟩, ⟨#[48, 49, 50, 51, 52, 53, 54, 55, 56, 57]⟩, ⟨#[43, 45, 46]⟩] b 4 rfl (by decide) (by intro s h; simp only [List.mem_cons, List.not_mem_nil, or_false] at h; rcases h with rfl | rfl | rfl | rfl <;> decide) V ?_ hb 288063250384289792 576460743847706622 0 0 (Lib.hid fold_scheme)
    intro i h
    match i, h with
    | 0, _ => exact c0
    | 1, _ => exact c1
    | 2, _ => exact c2
    | 3, _ => exact c3
    | j + 4, h => exact absurd h (by simp)
  · intro V c
    rw [← has_scheme c]
    exact has_any 288063250384289792 576460743847706622 0 0 (by decide) (by decide) (by decide) (by decide) c.toNat (UInt8.toNat_lt c) V
  · intro V s hs
    exact made_anyQ byteOf_is s hs 288063250384289792 576460743847706622 0 0 (by decide) (by decide) (by decide) (by decide) okS (Lib.hid has_scheme) V
theorem set_user : ∃ A : Value, A = (.agg #[.int .u64 ((3458623578763689984 : Nat) : Int), .int .u64 ((5188146764422578174 : Nat) : Int), .int .u64 ((0 : Nat) : Int), .int .u64 ((0 : Nat) : Int)]) ∧
    Hid (∀ (V : World) (b : Nat), V.cell? ⟨b, 0, none⟩ = some (.string ⟨#[97, 98, 99, 100, 101, 102, 103, 104, 105, 106, 107, 108, 109, 110, 111, 112, 113, 114, 115, 116, 117, 118, 119, 120, 121, 122, 65, 66, 67, 68, 69, 70, 71, 72, 73, 74, 75, 76, 77, 78, 79, 80, 81, 82, 83, 84, 85, 86, 87, 88, 89, 90, 48, 49, 50, 51, 52, 53, 54, 55, 56, 57, 45, 46, 95, 126]⟩) → V.cell? ⟨b, 1, none⟩ = some (.string ⟨#[33, 36, 38, 39, 40, 41, 42, 43, 44, 59, 61]⟩) → V.cell? ⟨b, 2, none⟩ = some (.string ⟨#[58]⟩) → b < V.heap.size → Calls Tryz.prog 99 #[.slice (some ⟨b, 0, none⟩) 3 3] V fun e w' => e = .returned A ∧ Below V.heap.size V w') ∧
    Hid (∀ (V : World) (c : UInt8), Calls Tryz.prog 102 #[A, .int .u8 (c.toNat : Int)] V fun e w' => e = .returned (.bool ((mayBQ [58]) c)) ∧ Below V.heap.size V w') ∧
    Hid (∀ (V : World) (s : ByteArray), s.size ≤ 1000000 → Calls Tryz.prog 147 #[.string s, A] V fun e w' => e = .returned (.bool (madeB (mayBQ [58]) s.data.toList)) ∧ Below V.heap.size V w') := by
  refine ⟨(.agg #[.int .u64 ((3458623578763689984 : Nat) : Int), .int .u64 ((5188146764422578174 : Nat) : Int), .int .u64 ((0 : Nat) : Int), .int .u64 ((0 : Nat) : Int)]), rfl, Lib.hid ?_, Lib.hid ?_, Lib.hid ?_⟩
  · intro V b c0 c1 c2 hb
    refine of_any [⟨#[97, 98, 99, 100, 101, 102, 103, 104, 105, 106, 107, 108, 109, 110, 111, 112, 113, 114, 115, 116, 117, 118, 119, 120, 121, 122, 65, 66, 67, 68, 69, 70, 71, 72, 73, 74, 75, 76, 77, 78, 79, 80, 81, 82, 83, 84, 85, 86, 87, 88, 89, 90, 48, 49, 50, 51, 52, 53, 54, 55, 56, 57, 45, 46, 95, 126]⟩, ⟨#[33, 36, 38, 39, 40, 41, 42, 43, 44, 59, 61]⟩, ⟨#[58]⟩] b 3 rfl (by decide) (by intro s h; simp only [List.mem_cons, List.not_mem_nil, or_false] at h; rcases h with rfl | rfl | rfl <;> decide) V ?_ hb 3458623578763689984 5188146764422578174 0 0 (Lib.hid fold_user)
    intro i h
    match i, h with
    | 0, _ => exact c0
    | 1, _ => exact c1
    | 2, _ => exact c2
    | j + 3, h => exact absurd h (by simp)
  · intro V c
    rw [← has_user c]
    exact has_any 3458623578763689984 5188146764422578174 0 0 (by decide) (by decide) (by decide) (by decide) c.toNat (UInt8.toNat_lt c) V
  · intro V s hs
    exact made_anyQ byteOf_is s hs 3458623578763689984 5188146764422578174 0 0 (by decide) (by decide) (by decide) (by decide) (mayBQ [58]) (Lib.hid has_user) V
theorem set_host : ∃ A : Value, A = (.agg #[.int .u64 ((3170393202611978240 : Nat) : Int), .int .u64 ((5188146764422578174 : Nat) : Int), .int .u64 ((0 : Nat) : Int), .int .u64 ((0 : Nat) : Int)]) ∧
    Hid (∀ (V : World) (b : Nat), V.cell? ⟨b, 0, none⟩ = some (.string ⟨#[97, 98, 99, 100, 101, 102, 103, 104, 105, 106, 107, 108, 109, 110, 111, 112, 113, 114, 115, 116, 117, 118, 119, 120, 121, 122, 65, 66, 67, 68, 69, 70, 71, 72, 73, 74, 75, 76, 77, 78, 79, 80, 81, 82, 83, 84, 85, 86, 87, 88, 89, 90, 48, 49, 50, 51, 52, 53, 54, 55, 56, 57, 45, 46, 95, 126]⟩) → V.cell? ⟨b, 1, none⟩ = some (.string ⟨#[33, 36, 38, 39, 40, 41, 42, 43, 44, 59, 61]⟩) → b < V.heap.size → Calls Tryz.prog 99 #[.slice (some ⟨b, 0, none⟩) 2 2] V fun e w' => e = .returned A ∧ Below V.heap.size V w') ∧
    Hid (∀ (V : World) (c : UInt8), Calls Tryz.prog 102 #[A, .int .u8 (c.toNat : Int)] V fun e w' => e = .returned (.bool ((mayBQ []) c)) ∧ Below V.heap.size V w') ∧
    Hid (∀ (V : World) (s : ByteArray), s.size ≤ 1000000 → Calls Tryz.prog 147 #[.string s, A] V fun e w' => e = .returned (.bool (madeB (mayBQ []) s.data.toList)) ∧ Below V.heap.size V w') := by
  refine ⟨(.agg #[.int .u64 ((3170393202611978240 : Nat) : Int), .int .u64 ((5188146764422578174 : Nat) : Int), .int .u64 ((0 : Nat) : Int), .int .u64 ((0 : Nat) : Int)]), rfl, Lib.hid ?_, Lib.hid ?_, Lib.hid ?_⟩
  · intro V b c0 c1 hb
    refine of_any [⟨#[97, 98, 99, 100, 101, 102, 103, 104, 105, 106, 107, 108, 109, 110, 111, 112, 113, 114, 115, 116, 117, 118, 119, 120, 121, 122, 65, 66, 67, 68, 69, 70, 71, 72, 73, 74, 75, 76, 77, 78, 79, 80, 81, 82, 83, 84, 85, 86, 87, 88, 89, 90, 48, 49, 50, 51, 52, 53, 54, 55, 56, 57, 45, 46, 95, 126]⟩, ⟨#[33, 36, 38, 39, 40, 41, 42, 43, 44, 59, 61]⟩] b 2 rfl (by decide) (by intro s h; simp only [List.mem_cons, List.not_mem_nil, or_false] at h; rcases h with rfl | rfl <;> decide) V ?_ hb 3170393202611978240 5188146764422578174 0 0 (Lib.hid fold_host)
    intro i h
    match i, h with
    | 0, _ => exact c0
    | 1, _ => exact c1
    | j + 2, h => exact absurd h (by simp)
  · intro V c
    rw [← has_host c]
    exact has_any 3170393202611978240 5188146764422578174 0 0 (by decide) (by decide) (by decide) (by decide) c.toNat (UInt8.toNat_lt c) V
  · intro V s hs
    exact made_anyQ byteOf_is s hs 3170393202611978240 5188146764422578174 0 0 (by decide) (by decide) (by decide) (by decide) (mayBQ []) (Lib.hid has_host) V
theorem set_path : ∃ A : Value, A = (.agg #[.int .u64 ((3458764316252045312 : Nat) : Int), .int .u64 ((5188146764422578175 : Nat) : Int), .int .u64 ((0 : Nat) : Int), .int .u64 ((0 : Nat) : Int)]) ∧
    Hid (∀ (V : World) (b : Nat), V.cell? ⟨b, 0, none⟩ = some (.string ⟨#[97, 98, 99, 100, 101, 102, 103, 104, 105, 106, 107, 108, 109, 110, 111, 112, 113, 114, 115, 116, 117, 118, 119, 120, 121, 122, 65, 66, 67, 68, 69, 70, 71, 72, 73, 74, 75, 76, 77, 78, 79, 80, 81, 82, 83, 84, 85, 86, 87, 88, 89, 90, 48, 49, 50, 51, 52, 53, 54, 55, 56, 57, 45, 46, 95, 126]⟩) → V.cell? ⟨b, 1, none⟩ = some (.string ⟨#[33, 36, 38, 39, 40, 41, 42, 43, 44, 59, 61]⟩) → V.cell? ⟨b, 2, none⟩ = some (.string ⟨#[58, 64, 47]⟩) → b < V.heap.size → Calls Tryz.prog 99 #[.slice (some ⟨b, 0, none⟩) 3 3] V fun e w' => e = .returned A ∧ Below V.heap.size V w') ∧
    Hid (∀ (V : World) (c : UInt8), Calls Tryz.prog 102 #[A, .int .u8 (c.toNat : Int)] V fun e w' => e = .returned (.bool ((mayBQ [58, 64, 47]) c)) ∧ Below V.heap.size V w') ∧
    Hid (∀ (V : World) (s : ByteArray), s.size ≤ 1000000 → Calls Tryz.prog 147 #[.string s, A] V fun e w' => e = .returned (.bool (madeB (mayBQ [58, 64, 47]) s.data.toList)) ∧ Below V.heap.size V w') := by
  refine ⟨(.agg #[.int .u64 ((3458764316252045312 : Nat) : Int), .int .u64 ((5188146764422578175 : Nat) : Int), .int .u64 ((0 : Nat) : Int), .int .u64 ((0 : Nat) : Int)]), rfl, Lib.hid ?_, Lib.hid ?_, Lib.hid ?_⟩
  · intro V b c0 c1 c2 hb
    refine of_any [⟨#[97, 98, 99, 100, 101, 102, 103, 104, 105, 106, 107, 108, 109, 110, 111, 112, 113, 114, 115, 116, 117, 118, 119, 120, 121, 122, 65, 66, 67, 68, 69, 70, 71, 72, 73, 74, 75, 76, 77, 78, 79, 80, 81, 82, 83, 84, 85, 86, 87, 88, 89, 90, 48, 49, 50, 51, 52, 53, 54, 55, 56, 57, 45, 46, 95, 126]⟩, ⟨#[33, 36, 38, 39, 40, 41, 42, 43, 44, 59, 61]⟩, ⟨#[58, 64, 47]⟩] b 3 rfl (by decide) (by intro s h; simp only [List.mem_cons, List.not_mem_nil, or_false] at h; rcases h with rfl | rfl | rfl <;> decide) V ?_ hb 3458764316252045312 5188146764422578175 0 0 (Lib.hid fold_path)
    intro i h
    match i, h with
    | 0, _ => exact c0
    | 1, _ => exact c1
    | 2, _ => exact c2
    | j + 3, h => exact absurd h (by simp)
  · intro V c
    rw [← has_path c]
    exact has_any 3458764316252045312 5188146764422578175 0 0 (by decide) (by decide) (by decide) (by decide) c.toNat (UInt8.toNat_lt c) V
  · intro V s hs
    exact made_anyQ byteOf_is s hs 3458764316252045312 5188146764422578175 0 0 (by decide) (by decide) (by decide) (by decide) (mayBQ [58, 64, 47]) (Lib.hid has_path) V
theorem set_query : ∃ A : Value, A = (.agg #[.int .u64 ((12682136353106821120 : Nat) : Int), .int .u64 ((5188146764422578175 : Nat) : Int), .int .u64 ((0 : Nat) : Int), .int .u64 ((0 : Nat) : Int)]) ∧
    Hid (∀ (V : World) (b : Nat), V.cell? ⟨b, 0, none⟩ = some (.string ⟨#[97, 98, 99, 100, 101, 102, 103, 104, 105, 106, 107, 108, 109, 110, 111, 112, 113, 114, 115, 116, 117, 118, 119, 120, 121, 122, 65, 66, 67, 68, 69, 70, 71, 72, 73, 74, 75, 76, 77, 78, 79, 80, 81, 82, 83, 84, 85, 86, 87, 88, 89, 90, 48, 49, 50, 51, 52, 53, 54, 55, 56, 57, 45, 46, 95, 126]⟩) → V.cell? ⟨b, 1, none⟩ = some (.string ⟨#[33, 36, 38, 39, 40, 41, 42, 43, 44, 59, 61]⟩) → V.cell? ⟨b, 2, none⟩ = some (.string ⟨#[58, 64, 47, 63]⟩) → b < V.heap.size → Calls Tryz.prog 99 #[.slice (some ⟨b, 0, none⟩) 3 3] V fun e w' => e = .returned A ∧ Below V.heap.size V w') ∧
    Hid (∀ (V : World) (c : UInt8), Calls Tryz.prog 102 #[A, .int .u8 (c.toNat : Int)] V fun e w' => e = .returned (.bool ((mayBQ [58, 64, 47, 63]) c)) ∧ Below V.heap.size V w') ∧
    Hid (∀ (V : World) (s : ByteArray), s.size ≤ 1000000 → Calls Tryz.prog 147 #[.string s, A] V fun e w' => e = .returned (.bool (madeB (mayBQ [58, 64, 47, 63]) s.data.toList)) ∧ Below V.heap.size V w') := by
  refine ⟨(.agg #[.int .u64 ((12682136353106821120 : Nat) : Int), .int .u64 ((5188146764422578175 : Nat) : Int), .int .u64 ((0 : Nat) : Int), .int .u64 ((0 : Nat) : Int)]), rfl, Lib.hid ?_, Lib.hid ?_, Lib.hid ?_⟩
  · intro V b c0 c1 c2 hb
    refine of_any [⟨#[97, 98, 99, 100, 101, 102, 103, 104, 105, 106, 107, 108, 109, 110, 111, 112, 113, 114, 115, 116, 117, 118, 119, 120, 121, 122, 65, 66, 67, 68, 69, 70, 71, 72, 73, 74, 75, 76, 77, 78, 79, 80, 81, 82, 83, 84, 85, 86, 87, 88, 89, 90, 48, 49, 50, 51, 52, 53, 54, 55, 56, 57, 45, 46, 95, 126]⟩, ⟨#[33, 36, 38, 39, 40, 41, 42, 43, 44, 59, 61]⟩, ⟨#[58, 64, 47, 63]⟩] b 3 rfl (by decide) (by intro s h; simp only [List.mem_cons, List.not_mem_nil, or_false] at h; rcases h with rfl | rfl | rfl <;> decide) V ?_ hb 12682136353106821120 5188146764422578175 0 0 (Lib.hid fold_query)
    intro i h
    match i, h with
    | 0, _ => exact c0
    | 1, _ => exact c1
    | 2, _ => exact c2
    | j + 3, h => exact absurd h (by simp)
  · intro V c
    rw [← has_query c]
    exact has_any 12682136353106821120 5188146764422578175 0 0 (by decide) (by decide) (by decide) (by decide) c.toNat (UInt8.toNat_lt c) V
  · intro V s hs
    exact made_anyQ byteOf_is s hs 12682136353106821120 5188146764422578175 0 0 (by decide) (by decide) (by decide) (by decide) (mayBQ [58, 64, 47, 63]) (Lib.hid has_query) V
theorem set_free : ∃ A : Value, A = (.agg #[.int .u64 ((288054454291267584 : Nat) : Int), .int .u64 ((5188146764422578174 : Nat) : Int), .int .u64 ((0 : Nat) : Int), .int .u64 ((0 : Nat) : Int)]) ∧
    Hid (∀ (V : World) (b : Nat), V.cell? ⟨b, 0, none⟩ = some (.string ⟨#[97, 98, 99, 100, 101, 102, 103, 104, 105, 106, 107, 108, 109, 110, 111, 112, 113, 114, 115, 116, 117, 118, 119, 120, 121, 122, 65, 66, 67, 68, 69, 70, 71, 72, 73, 74, 75, 76, 77, 78, 79, 80, 81, 82, 83, 84, 85, 86, 87, 88, 89, 90, 48, 49, 50, 51, 52, 53, 54, 55, 56, 57, 45, 46, 95, 126]⟩) → b < V.heap.size → Calls Tryz.prog 99 #[.slice (some ⟨b, 0, none⟩) 1 1] V fun e w' => e = .returned A ∧ Below V.heap.size V w') ∧
    Hid (∀ (V : World) (c : UInt8), Calls Tryz.prog 102 #[A, .int .u8 (c.toNat : Int)] V fun e w' => e = .returned (.bool (isFree c)) ∧ Below V.heap.size V w') ∧
    Hid (∀ (V : World) (s : ByteArray), s.size ≤ 1000000 → Calls Tryz.prog 147 #[.string s, A] V fun e w' => e = .returned (.bool (madeB isFree s.data.toList)) ∧ Below V.heap.size V w') := by
  refine ⟨(.agg #[.int .u64 ((288054454291267584 : Nat) : Int), .int .u64 ((5188146764422578174 : Nat) : Int), .int .u64 ((0 : Nat) : Int), .int .u64 ((0 : Nat) : Int)]), rfl, Lib.hid ?_, Lib.hid ?_, Lib.hid ?_⟩
  · intro V b c0 hb
    refine of_any [⟨#[97, 98, 99, 100, 101, 102, 103, 104, 105, 106, 107, 108, 109, 110, 111, 112, 113, 114, 115, 116, 117, 118, 119, 120, 121, 122, 65, 66, 67, 68, 69, 70, 71, 72, 73, 74, 75, 76, 77, 78, 79, 80, 81, 82, 83, 84, 85, 86, 87, 88, 89, 90, 48, 49, 50, 51, 52, 53, 54, 55, 56, 57, 45, 46, 95, 126]⟩] b 1 rfl (by decide) (by intro s h; simp only [List.mem_cons, List.not_mem_nil, or_false] at h; rcases h with rfl <;> decide) V ?_ hb 288054454291267584 5188146764422578174 0 0 (Lib.hid fold_free)
    intro i h
    match i, h with
    | 0, _ => exact c0
    | j + 1, h => exact absurd h (by simp)
  · intro V c
    rw [← has_free c]
    exact has_any 288054454291267584 5188146764422578174 0 0 (by decide) (by decide) (by decide) (by decide) c.toNat (UInt8.toNat_lt c) V
  · intro V s hs
    exact made_anyQ byteOf_is s hs 288054454291267584 5188146764422578174 0 0 (by decide) (by decide) (by decide) (by decide) isFree (Lib.hid has_free) V
end Go.Proofs.YtjhgiojmlkeccaaGreatDoor
namespace Go.Proofs.YtjhgiojmlkeccaaGreatDoor
open Go.RowKit
theorem sindex_one (s : ByteArray) (c : UInt8) (w : World) :
    Calls Tryz.prog 180 #[.string s, .string ⟨#[c]⟩] w fun e w' => e = .returned (.int .i64 (Lib.indexByte s.data.toList c)) ∧ w = w' := by
  have H := Lib.hid (fun w => index_one s c w)
  generalize Lib.indexByte s.data.toList c = r at *
  go_enter Tryz.func180, Tryz.ntmps180
  go_wp2_with fail
  refine (H.out _).mono ?_; rintro e w1 ⟨rfl, rfl⟩
  go_wp2_with fail
  go_ret
  exact ⟨rfl, rfl⟩
theorem scontains_one (s : ByteArray) (c : UInt8) (w : World) :
    Calls Tryz.prog 146 #[.string s, .string ⟨#[c]⟩] w fun e w' => e = .returned (.bool (s.data.toList.contains c)) ∧ w = w' := by
  have H := Lib.hid (fun w => sindex_one s c w)
  rw [indexByte_ahead] at H
  cases hc : s.data.toList.contains c
  · rw [hc] at H
    simp only [Bool.false_eq_true, if_false] at H
    clear hc
    go_enter Tryz.func146, Tryz.ntmps146
    go_wp2_with fail
    refine (H.out _).mono ?_; rintro e w1 ⟨rfl, rfl⟩
    go_wp2_with fail
    go_ret
    exact ⟨rfl, rfl⟩
  · rw [hc] at H
    simp only [if_true] at H
    clear hc
    generalize (ahead c s.data.toList).length = n at *
    go_enter Tryz.func146, Tryz.ntmps146
    go_wp2_with fail
    refine (H.out _).mono ?_; rintro e w1 ⟨rfl, rfl⟩
    go_wp2_with fail
    go_ret
    first | exact ⟨rfl, rfl⟩ | exact ⟨congrArg (fun b : Bool => Ending.returned (Value.bool b)) (decide_eq_true (p := (0 : Int) ≤ n) (by omega)), rfl⟩
end Go.Proofs.YtjhgiojmlkeccaaGreatDoor
